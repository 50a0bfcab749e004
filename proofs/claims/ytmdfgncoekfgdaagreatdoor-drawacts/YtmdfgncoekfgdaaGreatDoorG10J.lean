/- What acts do: one theorem for .. -/
import Derived.Test.YtmdfgncoekfgdaaGreatDoorG4J
import Derived.Test.YtmdfgncoekfgdaaGreatDoorG9J
import Derived.Test.YtmdfgncoekfgdaaGreatDoorG4J
import Derived.Test.YtmdfgncoekfgdaaGreatDoorG8J
import Derived.Test.YtmdfgncoekfgdaaGreatDoorG7J
import Derived.Test.YtmdfgncoekfgdaaGreatDoorTabJ
import Derived.Lib.AppendZeros
import Derived.Shelf.Spec.SlicesInsert
import Derived.Test.YtmdfgncoekfgdaaGreatDoorG1J
import Derived.Test.YtmdfgncoekfgdaaGreatDoorG6J
import Derived.Shelf.Strings.BuilderK
import Derived.Shelf.Strings.OnBuilder
import Derived.Shelf.Strings.Search3
import Derived.Shelf.Strings.Count
import Derived.Shelf.Strings.SplitCore
import Derived.Test.YtmdfgncoekfgdaaGreatDoorChecked
import Derived.Lib.Join
import Derived.Lib.UnsafeStr
import Derived.Lib.Bytealg
import Derived.Lib.Split
import Derived.Lib.SplitLaws
import Derived.Lib.CountLaws
import Derived.Lib.IndexBytes
import Derived.Lib.IndexLaws
set_option maxRecDepth 100000
noncomputable section
namespace Go.Proofs.YtmdfgncoekfgdaaGreatDoor
open Go Go.D
section
variable {X:aG} {m:M}
theorem FN{us vs:List Un}{ms F:List Mk}{a:Ac}(h:tD us ms a=some (vs,F)):F.length<=ms.length+1:=by
 have H:(lY ms a.id).length<=ms.length+1:=by unfold lY;exact Nat.le_succ_of_le (acg _ _)
 unfold tD at h;split at h
 ·simp only[aaj,aaG]at h;obtain⟨_, -, -,rfl⟩:=h;omega
 split at h
 ·split at h;·cases h;exact H
  cases h
 split at h
 ·split at h;·cases h
  split at h;·cases h
  split at h;·cases h
  simp only[aaj,aaG]at h;obtain⟨_, -, -,rfl⟩:=h;exact H
 split at h
 ·split at h;·cases h
  split at h;·cases h
  simp only[aaj,aaG]at h;obtain⟨_, -, -,rfl⟩:=h;omega
 split at h
 ·split at h;·cases h
  cases h;exact wk _ _
 simp only[aaj,aaG]at h;obtain⟨W,ht, -,rfl⟩:=h;obtain⟨k,y, -, -, -,rfl⟩:=uU ht;rw[abM];omega
def DoK(X:aG)(f:Nat)(a:Ac):Prop:=∀{m:M} {n1 S:Nat} {l:List UW} {ms:List Mk} {r v w:aed},m.get S=.cells [r,v] 258 none->cJ m l r->cF (bR l)->jU n1 m ms v->ms.length < 400->(ms.Pairwise λa b=>a.id < b.id)->n1<=S->
 Sl m a.un.shape w->a.un.shape.length < 4611686018427387904->
 (∀F H,tD (bR l) ms a=some (F,H)->∃m' b,C X (.func f) [ptrTo S,a.v w] m b (aO []) m'/\n1<=b/\zu S v m F H m')/\
 (tD (bR l) ms a=none->∃m' b,CP X (.func f) [ptrTo S,a.v w] m b m'/\n1<=b/\jx S v m m')
theorem MK(hX:cV X)(hI:me X)(hG:qM X){a:Ac}(h:dU a=true):
  ∃x y f z u,lM a.kind=kS x y (fV f) z u/\(cells (lM a.kind)).all one=true/\DoK X f a:=by
 obtain⟨kd,un,id,i,k,jL⟩:=a
 have low:∀{f:Nat} {args:aee} {m:M} {n1 S:Nat} {v:aed},n1<=S->(∃m' b,CP X (.func f) args m b m'/\S<=b/\jx S v m m')->∃m' b,CP X (.func f) args m b m'/\n1<=b/\jx S v m m':=by rintro f args m n1 S v hn ⟨m',b,h1,h2,h3⟩;exact⟨m',b,h1,by omega,h3⟩
 by_cases h1:kd=1
 ·subst h1;refine⟨_,_,_,_,_,rfl,rfl,?_⟩;intro m n1 S l ms r v w hS hF hP hM hl W H hw hu;refine⟨λvs ns F=>?_,λF=>?_⟩
  ·unfold tD at F;rw[aaf rfl]at F;simp only[aaj,aaG]at F;obtain⟨d0,F,rfl,rfl⟩:=F;exact Td hX hI hS hF hP hM H hw hu F
  unfold tD at F;rw[aaf rfl]at F;simp only[acu]at F;exact low H (Pk hX hI hS hF hP hw hu F)
 by_cases h2:kd=2
 ·subst h2;refine⟨_,_,_,_,_,rfl,rfl,?_⟩;intro m n1 S l ms r v w hS hF hP hM hl W H hw hu;refine⟨λvs ns F=>?_,λF=>?_⟩
  ·unfold tD at F;rw[aaa h1,aaf rfl]at F;split at F
   ·cases F;exact Tc hX hS hF hP hM (by omega) H (by assumption)
   cases F
  unfold tD at F;rw[aaa h1,aaf rfl]at F;split at F;·cases F
  exact low H (Pj hX hS hF hP (acn.2 ‹¬_›))
 by_cases h3:kd=3
 ·subst h3;refine⟨_,_,_,_,_,rfl,rfl,?_⟩;intro m n1 S l ms r v w hS hF hP hM hl W H hw hu;refine⟨λvs ns F=>?_,λF=>?_⟩
  ·unfold tD at F;rw[aaa h1,aaa h2,aaf rfl]at F;split at F;·cases F
   rename_i u a0;split at F;·cases F
   rename_i p q hc;split at F;·cases F
   rename_i bR ha;simp only[aaj,aaG]at F;obtain⟨d0,F,rfl,rfl⟩:=F;exact Tb hX hI hG hS hF hP hM (by omega) H a0 hc ha F
  unfold tD at F;rw[aaa h1,aaa h2,aaf rfl]at F;split at F;·exact low H (MM hX hS hF hP ‹_›)
  rename_i u a0;split at F;·exact Ak hX hI hG hS hF hP hM (by omega) H a0 (.inl ‹_›)
  rename_i p q hc;split at F;·exact Ak hX hI hG hS hF hP hM (by omega) H a0 (.inr ⟨p,q,hc,.inl ‹_›⟩)
  rename_i bR ha;simp only[acu]at F;exact Ak hX hI hG hS hF hP hM (by omega) H a0 (.inr ⟨p,q,hc,.inr ⟨_,ha,F⟩⟩)
 by_cases h4:kd=4
 ·subst h4;refine⟨_,_,_,_,_,rfl,rfl,?_⟩;intro m n1 S l ms r v w hS hF hP hM hl W H hw hu
  have b0:(-40<=i/\i<=40)/\(-40<=k/\k<=40):=by unfold dU at h;dsimp only at h;rw[aaa h1,aaa h2,aaa h3,aaf rfl]at h;simp only[eA,Ψ,aaC]at h;omega
  refine⟨λvs ns F=>?_,λF=>?_⟩
  ·unfold tD at F;rw[aaa h1,aaa h2,aaa h3,aaf rfl]at F;split at F;·cases F
   rename_i u a0;split at F;·cases F
   rename_i x hx;simp only[aaj,aaG]at F;obtain⟨d0,F,rfl,rfl⟩:=F;exact Ta hX hI hS hF hP hM H a0 b0.1 b0.2 hx F
  unfold tD at F;rw[aaa h1,aaa h2,aaa h3,aaf rfl]at F;split at F;·exact low H (ML hX hS hF hP ‹_›)
  rename_i u a0;split at F;·exact low H (FO hX hI hS hM.sl.one hF hP b0.1 b0.2 a0 (.inl ‹_›))
  rename_i x hx;simp only[acu]at F;exact low H (FO hX hI hS hM.sl.one hF hP b0.1 b0.2 a0 (.inr ⟨x,hx,F⟩))
 by_cases h5:kd=5
 ·subst h5;refine⟨_,_,_,_,_,rfl,rfl,?_⟩;intro m n1 S l ms r v w hS hF hP hM hl W H hw hu;refine⟨λvs ns F=>?_,λF=>?_⟩
  ·unfold tD at F;rw[aaa h1,aaa h2,aaa h3,aaa h4,aaf rfl]at F;split at F;·cases F
   cases F;exact SZ hX hI hS hF hM hl W H (acn.2 ‹¬_›)
  unfold tD at F;rw[aaa h1,aaa h2,aaa h3,aaa h4,aaf rfl]at F;split at F;·exact low H (Ph hX hS hM.sl hl W (by assumption))
  cases F
 by_cases h6:kd=6
 ·subst h6;refine⟨_,_,_,_,_,rfl,rfl,?_⟩;intro m n1 S l ms r v w hS hF hP hM hl W H hw hu;refine⟨λvs ns F=>?_,λF=>?_⟩
  ·unfold tD at F;rw[aaa h1,aaa h2,aaa h3,aaa h4,aaa h5]at F;simp only[aaj,aaG]at F;obtain⟨e0,F,rfl,rfl⟩:=F;exact SY hX hS hF hM (by omega) H F
  unfold tD at F;rw[aaa h1,aaa h2,aaa h3,aaa h4,aaa h5]at F;simp only[acu]at F;exact low H (Pg hX hS hM.sl (by omega) F)
 by_cases h7:kd=7
 ·subst h7;refine⟨_,_,_,_,_,rfl,rfl,?_⟩;intro m n1 S l ms r v w hS hF hP hM hl W H hw hu;refine⟨λvs ns F=>?_,λF=>?_⟩
  ·unfold tD at F;rw[aaa h1,aaa h2,aaa h3,aaa h4,aaa h5]at F;simp only[aaj,aaG]at F;obtain⟨e0,F,rfl,rfl⟩:=F;exact SW hX hS hF hM (by omega) H F
  unfold tD at F;rw[aaa h1,aaa h2,aaa h3,aaa h4,aaa h5]at F;simp only[acu]at F;exact low H (Pf hX hS hM.sl (by omega) F)
 exfalso;unfold dU at h;dsimp only at h;rw[aaa h1,aaa h2,aaa h3,aaa h4,aaa h5,aaa (by omega)]at h;cases h
end
theorem Ns{W:Words}{CP:Fn->aee->M->(M->Nat->Prop)->Prop}{x0 x1:aed}{m:M}{R RP:aee->M->Nat->Prop}:Uy TE W CP (.iface 254 (.agg #[])) (kf Tryz.f117) [x0,x1] m R RP=ς W m x0 60 λa=>ς W a x1 91 λb=>υ W b [aeg,aeg] 60 λc=>υ W c [χ 0] 35 λd=>δ W d 91 (φ a) λf=>ψ W 118 [f] d λd f g=>ξ W d 0 λh=>ξ W d 1 λd=>υ W f [.nilFunc,.nilFunc,.nilFunc,.nilFunc,.nilFunc] 186 λi=>ι W i 186 (φ f) h λh i=>ο W .not d λd=>bD d (θ W 60 [] λa=>ι W h 60 (φ b) a λa d=>ι W a 35 (φ c) (χ 170) λa f=>aj (ah TE a 60 (φ b)) λb=>aj (ah TE a 35 (φ c)) λc=>R [b,c] a (min (min (min (min m.n g) i) d) f)) ((δ W h 60 (φ m) λd=>ψ W 175 [d] h λd h j=>θ W 258 [(0,d)] λd=>ς W h d 258 λd=>ε W 186 (φ f) 2 λf=>δ W d 182 f λf=>δ W d 91 (φ a) λa=>jN f λf k l=>W.bt f (k.toList++([φ h,a]++l.toList)) d λ_ a d=>aj (cP (φ h)) λf=>ε W 258 f 0 λf=>δ W a 60 f λf=>ψ W 156 [f] a λa f k=>ψ W 176 [a] f λ_ a f=>aj (cP (φ h)) λh=>ε W 258 h 0 λh=>δ W a 60 h λh=>ψ W 175 [h] a λa h l=>ι W h 60 (φ b) a λa h=>ι W a 35 (φ c) (χ 0) λa n=>W.aj (oI TE 254 true (.nilIface)) λo=>ξ W o 0 λp=>ξ W o 1 λo=>υ W a [] 254 λq=>ι W q 254 (φ a) p λp q=>bD o (θ W 60 [] λo=>ι W p 60 (φ b) o λo p=>ι W o 35 (φ c) (χ 170) λo r=>aj (ah TE o 60 (φ b)) λb=>aj (ah TE o 35 (φ c)) λc=>R [b,c] o (min (min (min (min (min (min (min (min (min (min m.n g) i) j) d) k) f) l) h) n) (min (min (min a.n q) p) r))) (η W .neq 20 (.nilIface) .nilIface λo=>bD o False (aj (ah TE p 60 (φ b)) λb=>aj (ah TE p 35 (φ c)) λc=>R [b,c] p (min (min (min (min (min (min (min (min (min (min m.n g) i) j) d) k) f) l) h) n) (min a.n q)))))\/((δ W h 60 (φ m) λa=>(CP (.func 175) [a] h λa d=>W.aj (oI TE 254 true (.iface 254 (.agg #[]))) λf=>ξ W f 0 λh=>ξ W f 1 λf=>υ W a [] 254 λj=>ι W j 254 (φ a) h λh j=>bD f (θ W 60 [] λf=>ι W h 60 (φ b) f λf h=>ι W f 35 (φ c) (χ 170) λf k=>aj (ah TE f 60 (φ b)) λb=>aj (ah TE f 35 (φ c)) λc=>RP [b,c] f (min (min (min (min m.n g) i) d) (min (min (min a.n j) h) k))) (η W .neq 20 (.iface 254 (.agg #[])) .nilIface λf=>bD f False (aj (ah TE h 60 (φ b)) λb=>aj (ah TE h 35 (φ c)) λc=>RP [b,c] h (min (min (min (min m.n g) i) d) (min a.n j)))))\/(ψ W 175 [a] h λa b _=>θ W 258 [(0,a)] λa=>ς W b a 258 λ_=>False))\/(δ W h 60 (φ m) λd=>ψ W 175 [d] h λd h j=>θ W 258 [(0,d)] λd=>ς W h d 258 λd=>(ε W 186 (φ f) 2 λf=>δ W d 182 f λf=>δ W d 91 (φ a) λa=>(jN f λf k l=>CP f (k.toList++([φ h,a]++l.toList)) d λa d=>W.aj (oI TE 254 true (.iface 254 (.agg #[]))) λf=>ξ W f 0 λh=>ξ W f 1 λf=>υ W a [] 254 λk=>ι W k 254 (φ a) h λh k=>bD f (θ W 60 [] λf=>ι W h 60 (φ b) f λf h=>ι W f 35 (φ c) (χ 170) λf l=>aj (ah TE f 60 (φ b)) λb=>aj (ah TE f 35 (φ c)) λc=>RP [b,c] f (min (min (min (min (min m.n g) i) j) d) (min (min (min a.n k) h) l))) (η W .neq 20 (.iface 254 (.agg #[])) .nilIface λf=>bD f False (aj (ah TE h 60 (φ b)) λb=>aj (ah TE h 35 (φ c)) λc=>RP [b,c] h (min (min (min (min (min m.n g) i) j) d) (min a.n k)))))\/(jN f λb c f=>W.bt b (c.toList++([φ h,a]++f.toList)) d λ_ _ _=>False))\/(ε W 186 (φ f) 2 λf=>δ W d 182 f λf=>δ W d 91 (φ a) λa=>jN f λf k l=>W.bt f (k.toList++([φ h,a]++l.toList)) d λ_ a d=>(aj (cP (φ h)) λf=>ε W 258 f 0 λf=>δ W a 60 f λf=>(CP (.func 156) [f] a λa f=>W.aj (oI TE 254 true (.iface 254 (.agg #[]))) λh=>ξ W h 0 λk=>ξ W h 1 λh=>υ W a [] 254 λl=>ι W l 254 (φ a) k λk l=>bD h (θ W 60 [] λh=>ι W k 60 (φ b) h λh k=>ι W h 35 (φ c) (χ 170) λh n=>aj (ah TE h 60 (φ b)) λb=>aj (ah TE h 35 (φ c)) λc=>RP [b,c] h (min (min (min (min (min (min m.n g) i) j) d) f) (min (min (min a.n l) k) n))) (η W .neq 20 (.iface 254 (.agg #[])) .nilIface λh=>bD h False (aj (ah TE k 60 (φ b)) λb=>aj (ah TE k 35 (φ c)) λc=>RP [b,c] k (min (min (min (min (min (min m.n g) i) j) d) f) (min a.n l)))))\/(ψ W 156 [f] a λa f h=>(CP (.func 176) [a] f λa f=>W.aj (oI TE 254 true (.iface 254 (.agg #[]))) λk=>ξ W k 0 λl=>ξ W k 1 λk=>υ W a [] 254 λn=>ι W n 254 (φ a) l λl n=>bD k (θ W 60 [] λk=>ι W l 60 (φ b) k λk l=>ι W k 35 (φ c) (χ 170) λk o=>aj (ah TE k 60 (φ b)) λb=>aj (ah TE k 35 (φ c)) λc=>RP [b,c] k (min (min (min (min (min (min (min m.n g) i) j) d) h) f) (min (min (min a.n n) l) o))) (η W .neq 20 (.iface 254 (.agg #[])) .nilIface λk=>bD k False (aj (ah TE l 60 (φ b)) λb=>aj (ah TE l 35 (φ c)) λc=>RP [b,c] l (min (min (min (min (min (min (min m.n g) i) j) d) h) f) (min a.n n)))))\/(ψ W 176 [a] f λ_ _ _=>False)))\/(aj (cP (φ h)) λf=>ε W 258 f 0 λf=>δ W a 60 f λf=>ψ W 156 [f] a λa f k=>ψ W 176 [a] f λ_ a f=>(aj (cP (φ h)) λh=>ε W 258 h 0 λh=>δ W a 60 h λh=>(CP (.func 175) [h] a λa h=>W.aj (oI TE 254 true (.iface 254 (.agg #[]))) λl=>ξ W l 0 λn=>ξ W l 1 λl=>υ W a [] 254 λo=>ι W o 254 (φ a) n λn o=>bD l (θ W 60 [] λl=>ι W n 60 (φ b) l λl n=>ι W l 35 (φ c) (χ 170) λl p=>aj (ah TE l 60 (φ b)) λb=>aj (ah TE l 35 (φ c)) λc=>RP [b,c] l (min (min (min (min (min (min (min (min m.n g) i) j) d) k) f) h) (min (min (min a.n o) n) p))) (η W .neq 20 (.iface 254 (.agg #[])) .nilIface λl=>bD l False (aj (ah TE n 60 (φ b)) λb=>aj (ah TE n 35 (φ c)) λc=>RP [b,c] n (min (min (min (min (min (min (min (min m.n g) i) j) d) k) f) h) (min a.n o)))))\/(ψ W 175 [h] a λa d _=>ι W d 60 (φ b) a λa _=>ι W a 35 (φ c) (χ 0) λ_ _=>False))\/(aj (cP (φ h)) λd=>ε W 258 d 0 λd=>δ W a 60 d λd=>ψ W 175 [d] a λa d _=>ι W d 60 (φ b) a λa _=>ι W a 35 (φ c) (χ 0) λ_ _=>False)))))):=by kernel_rfl
section
variable {X:aG} {m:M}
abbrev uJ:aed:=.agg #[.slice none 0 0,.slice none 0 0]
theorem eR{b:Nat}{r v:aed}{t:TypeId}{g:Option Nat}(h:m.get b=.cells [r,v] t g):ah TE m 60 (aeb b 0)=some (.agg #[r,v]):=by rw[ph,aJ (n:=2) h (by show 0+2<=2;decide)];rfl
theorem DT{b:Nat}{z:Int}{g:Option Nat}(h:m.get b=.cells [.int .i64 z] 35 g):ah TE m 35 (aeb b 0)=some (.int .i64 z):=by rw[Ot,aF h];rfl
theorem Je:TE.ty.get 254=some ag.t254:=by kernel_rfl
theorem mi:TE.ty.get 60=some ag.t60:=by kernel_rfl
theorem zz:TE.ty.get 35=some ag.t35:=by kernel_rfl
theorem Nh:oI TE 254 true (.iface 254 (.agg #[]))=some (.tuple #[.agg #[],aeh]):=by kernel_rfl
theorem Px:oI TE 254 true .nilIface=some (.tuple #[.agg #[],aei]):=by kernel_rfl
theorem QZ:aw TE .neq 20 .nilIface .nilIface=some aei:=by kernel_rfl
theorem Bm{A B lo:Nat}{cA cB:aee}(gA:m.get A=.cells cA 60 none)(lA:cA.length=2)(gB:m.get B=.cells cB 35 none)(lB:cB.length=1)(d0:A≠B){K:aee->M->Nat->Prop}{F:Prop}
  (hK:∀m' b,m.n<=m'.n->(∀c,c < m.n->c≠A->c≠B->m'.get c=m.get c)->min A B<=b->K [uJ,.int .i64 170] m' (min lo b)):
  aj (oI TE 254 true (.iface 254 (.agg #[]))) λW=>aj (bF W 0) λe0=>aj (bF W 1) λg0=>bZ (m.push (.cells [] 254 none)) λh0=>aT (aA TE h0 254 (ptrTo m.n) e0) λi0 j0=>bD g0
   (aj (aR TE 60 []) λv193=>aT (aA TE i0 60 (ptrTo A) v193) λk0 l0=>aT (aA TE k0 35 (ptrTo B) (.int .i64 170)) λH o0=>aj (ah TE H 60 (ptrTo A)) λv198=>aj (ah TE H 35 (ptrTo B)) λq0=>K [v198,q0] H (min lo (min (min (min m.n j0) l0) o0)))
   F:=by
 have u0:=M.aL gA;have v0:=M.aL gB;refine ai Nh ?_;refine ai (v:=.agg #[]) rfl ?_;refine ai (v:=aeh) rfl ?_;refine au λm1 F0 z0 a0=>?_;unfold ptrTo;refine aC Je z0 rfl rfl rfl λm2 G0 H0 b0=>?_;rw[an,bU];refine ai zo ?_;have A0:m2.get A=.cells cA 60 none:=by rw[b0 _ (by omega),a0 _ u0,gA]
 refine aC mi A0 rfl lA.symm rfl λm3 I0 B0 r0=>?_;have C0:m3.get B=.cells cB 35 none:=by rw[r0 _ (Ne.symm d0),b0 _ (by omega),a0 _ v0,gB]
 refine aC zz C0 rfl lB.symm rfl λm4 J0 D0 s0=>?_;have E0:m4.get A=.cells [aeg,aeg] 60 none:=by rw[s0 _ d0];exact B0
 refine ai (eR E0) (ai (DT D0) ?_);exact hK m4 _ (by omega) (λc hc h1 h2=>by rw[s0 c h2,r0 c h1,b0 c (by omega),a0 c hc]) (by omega)
section
variable {l:List UW} {ms:List Mk} {r v w:aed} {a:Ac}
theorem EY(hX:cV X)(hw:Sl m a.un.shape w)(hu:a.un.shape.length < 4611686018427387904)(hf:dZ a=false){R RP:aee->M->Nat->Prop}
  (hR:∀m' lo,Ext m m'->m.n<=lo->R [uJ,.int .i64 170] m' lo):Uy TE (aI TE X) (dA TE X lI) rJ (kf Tryz.f117) [.agg #[r,v],a.v w] m R RP:=by
 rw[show rJ=.iface 254 (.agg #[])from rfl,Ns];dsimp only[aI,δ,ε,η,θ,ι,ξ,ο,ς,υ,φ,χ,ψ,dA];refine au λm1 I0 J0 o0=>?_;refine au λm2 K0 q0 r0=>?_;refine au λm3 L0 s0 e0=>?_;refine au λm4 M0 u0 a0=>?_;have g0:Ext m m4:=⟨by omega,λc hc=>by rw[a0 c (by omega),e0 c (by omega),r0 c (by omega),o0 c hc]⟩
 have ga:m4.get m1.n=.cells (a.c w) 91 none:=by rw[a0 _ (by omega),e0 _ (by omega)];exact q0
 have gA:m4.get m2.n=.cells [aeg,aeg] 60 none:=by rw[a0 _ (by omega)];exact s0
 have gB:m4.get m3.n=.cells [.int .i64 0] 35 none:=u0;unfold ptrTo;refine ai (e8 ga) ?_;obtain⟨m7,v0,F⟩:=rZ (m:=m4) hX (hw.aD g0) hu;refine az v0 ?_;have F0:=F.n;refine ai (v:=lM a.kind) rfl ?_;refine ai (v:=.bool (dZ a)) rfl ?_;refine au λm8 N0 z0 A0=>?_
 have b0:(cells (lM a.kind)).length=5/\(cells (lM a.kind)).all one=true:=by
  unfold lM iU jc;repeat' split
  all_goals exact⟨rfl,rfl⟩
 refine aC hO z0 b0.1 b0.1 b0.2 λm9 O0 P0 B0=>?_;have d0:Ext m7 m9:=⟨by omega,λc hc=>by rw[B0 c (by omega),A0 c hc]⟩
 rw[hf,bM,ae,an,aau,bU];refine ai zo ?_;have C0:=d0.cells (F.cells gA);have D0:=d0.cells (F.cells gB);refine aC mi C0 rfl rfl rfl λE0 G0 h0 H=>?_;have i0:E0.get m3.n=.cells [.int .i64 0] 35 none:=by rw[H _ (by omega),D0]
 refine aC zz i0 rfl rfl rfl λj0 H0 k0 W=>?_;have l0:j0.get m2.n=.cells [aeg,aeg] 60 none:=by rw[W _ (by omega)];exact h0
 refine ai (eR l0) (ai (DT k0) ?_);exact hR j0 _ ⟨by omega,λc hc=>by rw[W c (by omega),H c (by omega),d0.get c (by omega),F.get c (by omega),g0.get c hc]⟩ (by omega)
theorem zu.bH{S:Nat}{v:aed}{m':M}{n1:Nat}{ms:List Mk}(h:jx S v m m')(F:jU n1 m ms v)(W:n1<=S)(H:S < m.n):∀c,c < n1->m'.get c=m.get c:=λc hc=>
 h.2 c (by omega) (by omega) λa n k e=>by
  have:=(F.QI a n k e).1
  omega
theorem yF(hX:cV X)(hI:me X)(hG:qM X)(hF:cJ m l r)(hP:cF (bR l))(hM:Sl m ms v)(P0:pF (bR l) ms)(hw:Sl m a.un.shape w)(hu:a.un.shape.length < 4611686018427387904){vs:List Un}{ns:List Mk}(F:nv (bR l) ms a=some (vs,ns)){R RP:aee->M->Nat->Prop}
  (hR:∀r' v' l' m' lo,Ext m m'->m.n<=lo->bR l'=vs->cJ m' l' r'->Sl m' ns v'->R [.agg #[r',v'],.int .i64 0] m' lo):Uy TE (aI TE X) (dA TE X lI) rJ (kf Tryz.f117) [.agg #[r,v],a.v w] m R RP:=by
 unfold nv at F;split at F;case isFalse=>cases F
 case isTrue hf=>
 split at F;case h_2=>cases F
 case h_1 g2 i2 hd=>
 split at F;case isFalse=>cases F
 case isTrue w1=>
 cases F
 have hr:dU a=true:=by unfold dZ at hf;rw[Ψ]at hf;exact hf.1
 have j2:=P0.len;have z1:=hP.len;rw[dE]at z1;have A1:=uC hP hd;have k2:=FN hd;obtain⟨x,y,f,z,u,ek,v0,B1⟩:=MK hX hI hG hr;rw[show rJ=.iface 254 (.agg #[])from rfl,Ns];dsimp only[aI,δ,ε,η,θ,ι,ξ,ο,ς,υ,φ,χ,ψ,dA];refine au λm1 s2 C1 D1=>?_;refine au λm2 u2 E1 Q0=>?_;refine au λm3 w2 F1 M0=>?_;refine au λm4 z2 G1 s0=>?_;have S0:Ext m m4:=⟨by omega,λc W=>by rw[s0 c (by omega),M0 c (by omega),Q0 c (by omega),D1 c W]⟩
 have gs:m4.get m.n=.cells [r,v] 60 none:=by rw[s0 _ (by omega),M0 _ (by omega),Q0 _ (by omega)];exact C1
 have ga:m4.get m1.n=.cells (a.c w) 91 none:=by rw[s0 _ (by omega),M0 _ (by omega)];exact E1
 have gA:m4.get m2.n=.cells [aeg,aeg] 60 none:=by rw[s0 _ (by omega)];exact F1
 have gB:m4.get m3.n=.cells [.int .i64 0] 35 none:=G1;unfold ptrTo;refine ai (e8 ga) ?_;obtain⟨m7,H1,d0⟩:=rZ (m:=m4) hX (hw.aD S0) hu;refine az H1 ?_;have S1:=d0.n;refine ai (v:=lM a.kind) rfl ?_;refine ai (v:=.bool (dZ a)) rfl ?_;refine au λm8 A2 I1 J1=>?_;rw[ek]at v0⊢;refine aC hO I1 rfl rfl v0 λg0 T1 T0 U0=>?_;have g12:g0.get m7.n=.cells [x,y,fV f,z,u] 186 none:=T0;have H:Ext m7 g0:=⟨by omega,λc W=>by rw[U0 c (by omega),J1 c W]⟩
 rw[hf,bM,ae,an,aal,aM];have u0:Ext m g0:=(S0.trans d0).trans H;refine .inl ?_;refine ai (eR (H.cells (d0.cells gs))) ?_
 obtain⟨r',v',V0,l',X0,z0,A0,Y0,B0⟩:=qK (m:=g0) hX (hF.aD u0) (λx hx e=>by have:=cx (dP (hP.val x.u (aaU.2 ⟨x,hx,rfl⟩)));rw[e]at this;simp at this) (by omega) (hM.aD u0) (by omega)
 refine az X0 ?_;have h0:=z0.n;refine ai (tH (x0:=.agg #[r',v']) rfl) ?_;refine au λN0 U1 a1 c1=>?_;have a0:Ext V0 N0:=⟨by omega,c1⟩
 have K1:N0.get V0.n=.cells [r',v'] 258 none:=a1;have e0:=z0.trans a0;refine ai jR ?_;refine ai (v:=fV f) (by rw[vW,aF (e0.cells g12)];rfl) ?_;have d1:=H.cells (d0.cells ga);refine ai (e8 (e0.cells d1)) ?_;rw[bY];have L1:=u0.trans e0;obtain⟨N1,B2,e1,V1,r2,v2,l2,C0,i0,D0,E0,F0⟩:=(B1 (m:=N0) (n1:=g0.n) K1 (Y0.aD a0) (by rw[A0];exact hP) (B0.aD a0) (by omega) P0.IP h0 (hw.aD L1) hu).1 vs ns (by rw[A0];exact hd);refine az e1 ?_;have O0:=zu.bH F0 (B0.aD a0) h0 (by omega);have X1:=F0.1;refine ai bT (ai bL ?_);refine ai (eR C0) ?_;have j0:cF (bR l2):=by rw[i0];exact A1
 refine az (vT hX D0 j0 E0 (by omega)) ?_;rw[i0,w1];refine az (jr hX) ?_;refine ai bT (ai bL ?_);refine ai (eR C0) ?_;have O1:=j0.len;rw[dE]at O1
 obtain⟨r3,v3,k0,l3,g1,b0,i1,G0,H0⟩:=qK (m:=N1) hX D0 (λx hx e=>by have:=cx (dP (j0.val x.u (aaU.2 ⟨x,hx,rfl⟩)));rw[e]at this;simp at this) (by omega) E0 (by omega)
 refine az g1 ?_;have P1:=b0.n
 have I0:k0.get m2.n=.cells [aeg,aeg] 60 none:=by rw[b0.get _ (by omega),O0 _ (by omega)];exact e0.cells (H.cells (d0.cells gA))
 have J0:k0.get m3.n=.cells [.int .i64 0] 35 none:=by rw[b0.get _ (by omega),O0 _ (by omega)];exact e0.cells (H.cells (d0.cells gB))
 have o1:one r3=true:=G0.sl.one;have o2:one v3=true:=H0.sl.one;refine aC mi I0 rfl rfl (by show(one r3 && (one v3 && true))=true;rw[o1,o2];rfl) λQ1 Y1 j1 K0=>?_;have k1:Q1.get m3.n=.cells [.int .i64 0] 35 none:=by rw[K0 _ (by omega),J0]
 refine aC zz k1 rfl rfl rfl λC2 a2 p1 L0=>?_;refine ai Px ?_;refine ai (v:=.agg #[]) rfl ?_;refine ai (v:=aei) rfl ?_;refine au λD2 c2 r1 l0=>?_;refine aC Je r1 rfl rfl rfl λo0 d2 e2 q0=>?_;rw[an,aM];refine ai QZ ?_;rw[an,aM];have r0:∀c,c < k0.n->c≠m2.n->c≠m3.n->o0.get c=k0.get c:=λc W h1 h2=>by rw[q0 c (by omega),l0 c (by omega),L0 c h2,K0 c h1]
 have s1:o0.get m2.n=.cells [r3,v3] 60 none:=by rw[q0 _ (by omega),l0 _ (by omega),L0 _ (by omega)];exact j1
 have u1:o0.get m3.n=.cells [.int .i64 0] 35 none:=by rw[q0 _ (by omega),l0 _ (by omega)];exact p1
 refine ai (eR s1) (ai (DT u1) ?_)
 have v1:∀c cs t g,k0.get c=.cells cs t g->t≠60->t≠35->o0.get c=.cells cs t g:=λc cs t g W h1 h2=>by rw[r0 c (M.aL W) (λe=>by subst e;rw[I0]at W;cases W;exact h1 rfl) (λe=>by subst e;rw[J0]at W;cases W;exact h2 rfl),W]
 refine hR r3 v3 l3 o0 _ ⟨by omega,λc W=>?_⟩ (by omega) (by rw[i1,i0]) (G0.bH λc cs t g W ht=>v1 c cs t g W (by rcases ht with rfl |rfl <;>decide) (by rcases ht with rfl |rfl <;>decide)) (H0.sl.bH λb c t g hb ht=>?_);·rw[r0 c (by omega) (by omega) (by omega),b0.get c (by omega),O0 c (by omega),e0.get c (by omega),u0.get c W]
 have ht:t=89:=by simpa[aP.ty,aP.fx]using ht
 subst ht;exact v1 _ _ _ _ hb (by decide) (by decide)
theorem JU(hX:cV X)(hI:me X)(hG:qM X)(hF:cJ m l r)(hP:cF (bR l))(hM:Sl m ms v)(D0:pF (bR l) ms)(hw:Sl m a.un.shape w)(hu:a.un.shape.length < 4611686018427387904)(hf:dZ a=true)(e0:nv (bR l) ms a=none){R RP:aee->M->Nat->Prop}
  (E0:∀m' lo,Ext m m'->m.n<=lo->RP [uJ,.int .i64 170] m' lo):Uy TE (aI TE X) (dA TE X lI) rJ (kf Tryz.f117) [.agg #[r,v],a.v w] m R RP:=by
 have hr:dU a=true:=by have hf:=hf;unfold dZ at hf;rw[Ψ]at hf;exact hf.1
 have D1:=D0.len
 have X0:=hP.len
 rw[dE]at X0
 obtain⟨x,y,f,z,u,ek,l0,Y0⟩:=MK hX hI hG hr
 rw[show rJ=.iface 254 (.agg #[])from rfl,Ns];dsimp only[aI,δ,ε,η,θ,ι,ξ,ο,ς,υ,φ,χ,ψ,dA]
 refine au λm1 E1 a1 c1=>?_
 refine au λm2 F1 d1 F0=>?_
 refine au λm3 G1 e1 A0=>?_
 refine au λm4 H1 g1 k0=>?_
 have G0:Ext m m4:=⟨by omega,λc hc=>by rw[k0 c (by omega),A0 c (by omega),F0 c (by omega),c1 c hc]⟩
 have gs:m4.get m.n=.cells [r,v] 60 none:=by rw[k0 _ (by omega),A0 _ (by omega),F0 _ (by omega)];exact a1
 have ga:m4.get m1.n=.cells (a.c w) 91 none:=by rw[k0 _ (by omega),A0 _ (by omega)];exact d1
 have gA:m4.get m2.n=.cells [aeg,aeg] 60 none:=by rw[k0 _ (by omega)];exact e1
 have gB:m4.get m3.n=.cells [.int .i64 0] 35 none:=g1
 unfold ptrTo
 refine ai (e8 ga) ?_
 obtain⟨m7,i1,d0⟩:=rZ (m:=m4) hX (hw.aD G0) hu
 refine az i1 ?_
 have w1:=d0.n
 refine ai (v:=lM a.kind) rfl ?_
 refine ai (v:=.bool (dZ a)) rfl ?_
 refine au λm8 I1 j1 k1=>?_
 rw[ek]at l0⊢
 refine aC hO j1 rfl rfl l0 λg0 z1 H0 I0=>?_
 have g12:g0.get m7.n=.cells [x,y,fV f,z,u] 186 none:=H0
 have H:Ext m7 g0:=⟨by omega,λc hc=>by rw[I0 c (by omega),k1 c hc]⟩
 rw[hf,bM,ae,an,aal,aM]
 have h0:Ext m g0:=(G0.trans d0).trans H
 refine .inr (.inr ?_)
 refine ai (eR (H.cells (d0.cells gs))) ?_
 obtain⟨r',v',J0,l',K0,o0,q0,L0,i0⟩:=qK (m:=g0) hX (hF.aD h0) (λx hx e=>by have:=cx (dP (hP.val x.u (aaU.2 ⟨x,hx,rfl⟩)));rw[e]at this;simp at this) (by omega) (hM.aD h0) (by omega)
 refine az K0 ?_
 have a0:=o0.n
 refine ai (tH (x0:=.agg #[r',v']) rfl) ?_
 refine au λB0 A1 M0 N0=>?_
 have W:Ext J0 B0:=⟨by omega,N0⟩
 have o1:B0.get J0.n=.cells [r',v'] 258 none:=M0
 have F:=o0.trans W
 have r0:=F.cells (H.cells (d0.cells gA))
 have s0:=F.cells (H.cells (d0.cells gB))
 have u0:=H.cells (d0.cells ga)
 have p1:=h0.trans F
 have hD:=Y0 (m:=B0) (n1:=g0.n) o1 (L0.aD W) (by rw[q0];exact hP) (i0.aD W) (by omega) D0.IP a0 (hw.aD p1) hu
 rw[q0]at hD
 cases hd:tD (bR l) ms a with
 |none=>
  refine .inl ?_;refine ai jR ?_;refine ai (v:=fV f) (by rw[vW,aF (F.cells g12)];rfl) ?_;refine ai (e8 (F.cells u0)) ?_;refine .inl ?_;rw[bY];obtain⟨O0,P0,C0,r1,j0⟩:=hD.2 hd;have b0:=zu.bH j0 (i0.aD W) a0 (by omega);have s1:=j0.1;refine⟨O0,P0,C0,?_⟩;refine Bm (K:=RP) (by rw[b0 _ (by omega)];exact r0) rfl (by rw[b0 _ (by omega)];exact s0) rfl (by omega) λm' b h1 h2 h3=>?_;exact E0 m' _ ⟨by omega,λc hc=>by rw[h2 c (by omega) (by omega) (by omega),b0 c (by omega),F.get c (by omega),h0.get c hc]⟩ (by omega)
 |some p=>
  obtain⟨vs,ns⟩:=p
  have u1:qp vs ns=false:=by
   unfold nv at e0;rw[aaf hf,hd]at e0;dsimp only at e0;split at e0;·cases e0
   exact acn.2 ‹¬_›
  have v1:=uC hP hd;have J1:=FN hd;refine .inr ?_;refine ai jR ?_;refine ai (v:=fV f) (by rw[vW,aF (F.cells g12)];rfl) ?_;refine ai (e8 (F.cells u0)) ?_;rw[bY];obtain⟨Q0,K1,S0,B1,r2,v2,l2,T0,v0,U0,V0,z0⟩:=hD.1 vs ns hd;refine az S0 ?_;have b0:=zu.bH z0 (i0.aD W) a0 (by omega);have C1:=z0.1;refine .inl ?_;refine ai bT (ai bL ?_);refine ai (eR T0) ?_;refine .inr ?_;refine az (vT hX U0 (by rw[v0];exact v1) V0 (by omega)) ?_;rw[v0,u1];refine .inl ⟨Q0,Q0.n,ke,?_⟩;refine Bm (K:=RP) (by rw[b0 _ (by omega)];exact r0) rfl (by rw[b0 _ (by omega)];exact s0) rfl (by omega) λm' b h1 h2 h3=>?_;exact E0 m' _ ⟨by omega,λc hc=>by rw[h2 c (by omega) (by omega) (by omega),b0 c (by omega),F.get c (by omega),h0.get c hc]⟩ (by omega)
end
abbrev PT(Y:aG):aG:=pG TE Y lI rJ 117 (kf Tryz.f117)
structure PC(X:aG):Prop where
 ex:∃Y,cV Y/\me Y/\qM Y/\∀args m,X (.func 117) args m=PT Y (.func 117) args m
def jJ(us:List Un)(ms:List Mk)(a:Ac)(F:aed)(m':M):Prop:=
 match nv us ms a with
 |some (vs,ns)=>∃H W l',F=.tuple #[.agg #[H,W],.int .i64 0]/\bR l'=vs/\cJ m' l' H/\Sl m' ns W
 |none=>F=.tuple #[uJ,.int .i64 170]
theorem FP:TE.df.get 117=some (kf Tryz.f117):=by kernel_rfl
theorem OU:TE.fn.get 117=none:=by kernel_rfl
theorem oe:Nat.ble 2 (kf Tryz.f117).fn.ntmps=true:=by kernel_rfl
theorem zl{X:aG}{args:aee}{m m':M}{lo:Nat}{vs:aee}(H:∀l,l<=m.n->X (.func 117) args (m.wl l)=none)
  (h:∃n0,∀n,n0<=n->∀l,l<=m.n->nk TE (bz TE (bO TE X n) n) (kf Tryz.f117) args (m.wl l)=some (Hl m m' l lo vs)):
  ∃n0,∀n,n0<=n->∀l,l<=m.n->bO TE X n (.func 117) args (m.wl l)=some (bif bP (aO vs) && Nat.ble m.n lo then(aO vs,m.wl l)else(aO vs,m'.wl (min l lo))):=by
 obtain⟨n0,h⟩:=h;refine⟨n0+1,λn W l F=>?_⟩;obtain⟨n,rfl⟩:∃k,n=k+1:=⟨n-1,by omega⟩
 unfold bO;rw[H l F,OU,FP];exact h n (by omega) l F
section
variable {l:List UW} {ms:List Mk} {r v w:aed} {a:Ac}
theorem Ng(hX:cV X)(hI:me X)(hG:qM X)(j0:PC X)(hF:cJ m l r)(hP:cF (bR l))(hM:Sl m ms v)(a0:pF (bR l) ms)(hw:Sl m a.un.shape w)(hu:a.un.shape.length < 4611686018427387904):
  ∃rv m',C X (.func 117) [.agg #[r,v],a.v w] m m.n rv m'/\Ext m m'/\jJ (bR l) ms a rv m':=by
 obtain⟨Y,yX,yI,yG,hY⟩:=j0.ex
 have nX:=ql hX
 have nY:=ql yX
 have none_of:(∃n0,∀n,n0<=n->∀l,l<=m.n->ik TE Y lI rJ n (kf Tryz.f117) [.agg #[r,v],a.v w] (m.wl l)=none)->∀l,l<=m.n->X (.func 117) [.agg #[r,v],a.v w] (m.wl l)=none:=λ⟨n0,h⟩ l H=>by rw[hY];exact Di ⟨n0,λn W=>h n W l H⟩
 unfold jJ
 cases b0:nv (bR l) ms a with
 |some p=>
  obtain⟨vs,ns⟩:=p;rcases mh nY (r:=rJ) (d:=kf Tryz.f117) (args:=[.agg #[r,v],a.v w]) (m:=m) (R:=λ_ _ _=>True) (RP:=λ_ _ _=>False) oe (yF yX yI yG hF hP hM a0 hw hu b0 λ_ _ _ _ _ _ _ _ _ _=>trivial)with⟨_,_,_, -, -,n0,h0⟩ |⟨_,_,_,h, -⟩
  ·rcases mh nX (r:=rJ) (d:=kf Tryz.f117) (args:=[.agg #[r,v],a.v w]) (m:=m) (R:=λrs m' lo=>∃r' v' l',rs=[.agg #[r',v'],.int .i64 0]/\Ext m m'/\m.n<=lo/\bR l'=vs/\cJ m' l' r'/\Sl m' ns v') (RP:=λ_ _ _=>False) oe (yF hX hI hG hF hP hM a0 hw hu b0 λr' v' l' m' lo h1 h2 h3 h4 h5=>⟨r',v',l',rfl,h1,h2,h3,h4,h5⟩)with⟨_,m',lo,⟨r',v',l',rfl,hx,F,g0,d0,i0⟩,e0,n1,h1⟩ |⟨_,_,_,h, -⟩
   ·have cz:=zl (none_of ⟨n0,λn W l H=>(h0 n W l H).2⟩) ⟨n1,λn W l H=>(h1 n W l H).1⟩
    cases hf:bP (aO [.agg #[r',v'],.int .i64 0])with
    |true=>
     refine⟨_,m,.of_flat hf F cz,.refl,r',v',l',rfl,g0,?_,?_⟩
     ·have hr:r'=aeg/\l'=[]:=by
       rcases d0.sl with h |⟨b,o,c,bc,g,rfl, -⟩;·exact h
       cases hf
      obtain⟨rfl,rfl⟩:=hr;exact⟨.inl ⟨rfl,rfl⟩,λx hx=>(by cases hx),λx hx=>(by cases hx),.inl rfl⟩
     rcases i0 with h |⟨b,o,c,bc,g,rfl, -⟩;·exact .inl h
     exfalso;rcases d0.sl with⟨rfl, -⟩ |⟨b,o,c,bc,g,rfl, -⟩ <;>cases hf
    |false=>have hc:=Cl.uq e0 (.inl hf) cz;rw[abL F]at hc;exact⟨_,m',hc,hx,r',v',l',rfl,g0,d0,i0⟩
   exact h.elim
  exact h.elim
 |none=>
  have hz:bP (aO [uJ,.int .i64 170])=true:=by kernel_rfl
  cases hf:dZ a with
  |false=>
   rcases mh nY (r:=rJ) (d:=kf Tryz.f117) (args:=[.agg #[r,v],a.v w]) (m:=m) (R:=λ_ _ _=>True) (RP:=λ_ _ _=>False) oe (EY yX hw hu hf λ_ _ _ _=>trivial)with⟨_,_,_, -, -,n0,h0⟩ |⟨_,_,_,h, -⟩
   ·rcases mh nX (r:=rJ) (d:=kf Tryz.f117) (args:=[.agg #[r,v],a.v w]) (m:=m) (R:=λrs m' lo=>rs=[uJ,.int .i64 170]/\m.n<=lo) (RP:=λ_ _ _=>False) oe (EY hX hw hu hf λm' lo h1 h2=>⟨rfl,h2⟩)with⟨_,m',lo,⟨rfl,F⟩,e0,n1,h1⟩ |⟨_,_,_,h, -⟩
    ·have cz:=zl (none_of ⟨n0,λn W l H=>(h0 n W l H).2⟩) ⟨n1,λn W l H=>(h1 n W l H).1⟩;exact⟨_,m,.of_flat hz F cz,.refl,rfl⟩
    exact h.elim
   exact h.elim
  |true=>
   rcases mh nY (r:=rJ) (d:=kf Tryz.f117) (args:=[.agg #[r,v],a.v w]) (m:=m) (R:=λ_ _ _=>False) (RP:=λrs m' lo=>rs=[uJ,.int .i64 170]/\m.n<=lo) oe (JU yX yI yG hF hP hM a0 hw hu hf b0 λm' lo h1 h2=>⟨rfl,h2⟩)with⟨_,_,_,h, -⟩ |⟨_,m',lo,⟨rfl,F⟩,e0,n1,h1⟩;·exact h.elim
   refine⟨_,m,Cl.Ld (b:=m.n) (λl H=>?_) (Ξ _) (Ξ _),.refl,rfl⟩;rw[hY];refine(Dh ⟨n1,λn W=>h1 n W l H⟩).trans ?_;unfold Hl;have:Nat.ble m.n lo=true:=aa3 F;rw[hz,this,abL H];rfl
theorem jJ.flat{us:List Un}{W:aed}{m':M}(h:jJ us ms a W m')(hf:bP W=true):jJ us ms a W m:=by
 unfold jJ at h⊢
 cases F:nv us ms a with
 |none=>rw[F]at h;exact h
 |some p=>
  obtain⟨vs,ns⟩:=p;rw[F]at h;obtain⟨r',v',l',rfl,a0,H,b0⟩:=h;refine⟨r',v',l',rfl,a0,?_,?_⟩
  ·have hr:r'=aeg/\l'=[]:=by
    rcases H.sl with h |⟨b,o,c,bc,g,rfl, -⟩;·exact h
    cases hf
   obtain⟨rfl,rfl⟩:=hr;exact⟨.inl ⟨rfl,rfl⟩,λx hx=>(by cases hx),λx hx=>(by cases hx),.inl rfl⟩
  rcases b0 with h |⟨b,o,c,bc,g,rfl, -⟩;·exact .inl h
  exfalso;rcases H.sl with⟨rfl, -⟩ |⟨b,o,c,bc,g,rfl, -⟩ <;>cases hf
theorem jJ.form{us:List Un}{rv:aed}{m':M}(h:jJ us ms a rv m'):∃H v' z,rv=.tuple #[.agg #[H,v'],.int .i64 z]/\one H=true/\one v'=true:=by
 unfold jJ at h
 cases F:nv us ms a with
 |none=>rw[F]at h;exact⟨_,_,_,h,rfl,rfl⟩
 |some p=>rw[F]at h;obtain⟨H,v',l',rfl,b0,W,a0⟩:=h;exact⟨H,v',0,rfl,W.sl.one,a0.one⟩
theorem jJ.bH{us:List Un}{rv:aed}{m1 m':M}(h:jJ us ms a rv m1)(hk:∀c cs t g,m1.get c=.cells cs t g->(t=87\/t=98\/t=89)->m'.get c=.cells cs t g):jJ us ms a rv m':=by
 unfold jJ at h⊢
 cases F:nv us ms a with
 |none=>rw[F]at h;exact h
 |some p=>obtain⟨vs,ns⟩:=p;rw[F]at h;obtain⟨r',v',l',rfl,H,W,a0⟩:=h;refine⟨r',v',l',rfl,H,W.bH λc cs t g hc ht=>hk c cs t g hc (by rcases ht with h |h <;>simp[h]),a0.bH λc cs t g hc ht=>hk c cs t g hc (.inr (.inr (by simpa[aP.ty,aP.fx]using ht)))⟩
theorem Nl(hX:cV X)(hI:me X)(hG:qM X)(q0:PC X)(hF:cJ m l r)(hP:cF (bR l))(hM:Sl m ms v)(h0:pF (bR l) ms)(hw:Sl m a.un.shape w)(hu:a.un.shape.length < 4611686018427387904):
  ∃rv m',C X (.func 42) [.agg #[r,v],a.v w] m m.n rv m'/\Ext m m'/\jJ (bR l) ms a rv m':=by
 have key:=Cl.gen (E:=TE) (X:=X) (f:=42) (args:=[.agg #[r,v],a.v w]) (m:=m) (R:=λrv m' b=>b=m.n/\Ext m m'/\jJ (bR l) ms a rv m') (hX.no _ rfl) Vz rfl ?_
 ·obtain⟨rv,m',b,W,rfl,h⟩:=key;exact⟨rv,m',W,h⟩
 rw[F42];dsimp only[aI,δ,θ,ι,ξ,ο,ς,υ,φ,χ,ψ]
 refine au λm1 B0 r0 s0=>?_
 refine au λm2 C0 u0 i0=>?_
 refine au λm3 D0 v0 e0=>?_
 have F:Ext m m3:=⟨by omega,λc W=>by rw[e0 c (by omega),i0 c (by omega),s0 c W]⟩
 have gs:m3.get m.n=.cells [r,v] 60 none:=by rw[e0 _ (by omega),i0 _ (by omega)];exact r0
 have ga:m3.get m1.n=.cells (a.c w) 91 none:=by rw[e0 _ (by omega)];exact u0
 have gA:m3.get m2.n=.cells [aeg,aeg] 60 none:=v0
 unfold ptrTo
 refine ai (eR gs) ?_
 refine az (IA hX (hF.aD F) hP (hM.aD F) h0) ?_
 rw[bM,ae,an,aal,aM]
 refine ai (eR gs) ?_
 refine ai (e8 ga) ?_
 obtain⟨rv,E0,j0,H,k0⟩:=Ng (m:=m3) hX hI hG q0 (hF.aD F) hP (hM.aD F) h0 (hw.aD F) hu
 refine az j0 ?_
 have z0:=H.n
 obtain⟨r',v',z,rfl,o1,o2⟩:=k0.form
 refine ai (v:=.agg #[r',v']) rfl ?_
 refine ai (v:=.int .i64 z) rfl ?_
 have a0:=H.cells gA
 refine aC mi a0 rfl rfl (by show(one r' && (one v' && true))=true;rw[o1,o2];rfl) λg0 A0 l0 b0=>?_
 refine ai (eR (show g0.get m2.n=.cells [r',v'] 60 none from l0)) ?_
 have o0:Ext m g0:=⟨by omega,λc W=>by rw[b0 c (by omega),H.get c (by omega),F.get c W]⟩
 have d0:jJ (bR l) ms a (aO [.agg #[r',v'],.int .i64 z]) g0:=k0.bH λc cs t g W ht=>by rw[b0 c (λe=>by subst e;rw[a0]at W;cases W;rcases ht with h |h |h <;>cases h),W]
 cases hf:bP (aO [.agg #[r',v'],.int .i64 z])with
 |true=>exact .inl ⟨rfl,by omega,rfl,.refl,d0.flat hf⟩
 |false=>exact .inr ⟨.inl rfl,by omega,o0,d0⟩
end
theorem KZ{b:Nat}{r v:aed}{t:TypeId}{g:Option Nat}(h:m.get b=.cells [r,v] t g):ah TE m 29 (aeb b (0+0+0))=some r:=by rw[eJ,aF h];rfl
theorem yV{b:Nat}{r v:aed}{t:TypeId}{g:Option Nat}(h:m.get b=.cells [r,v] t g):ah TE m 31 (aeb b (0+0))=some (.agg #[r]):=by rw[dp,aJ (n:=1) h (by show 0+0+1<=2;decide)];rfl
theorem La{b:Nat}{r v:aed}{t:TypeId}{g:Option Nat}(h:m.get b=.cells [r,v] t g):ah TE m 58 (aeb b (0+1))=some v:=by rw[pj,aF h];rfl
section
variable {l:List UW} {ms:List Mk} {r v:aed}
theorem oN(H:cV X)(hF:cJ m l r)(hl:l.length < 1000){c:Int}(W:lu c):∃z,C X (.func 116) [.agg #[r,v],.int .i64 c] m m.n (.int .i64 z) m:=by
 have key:=Cl.gen (E:=TE) (X:=X) (f:=116) (args:=[.agg #[r,v],.int .i64 c]) (m:=m) (R:=λrv m' b=>b=m.n/\m'=m/\∃z,rv=.int .i64 z) (H.no _ rfl) SQ rfl ?_
 ·obtain⟨rv,m',b,W,rfl,rfl,z,rfl⟩:=key;exact⟨z,W⟩
 rw[ZA];dsimp only[aI,δ,ε,ζ,η,κ,ς,φ,χ,ψ];refine au λm1 k0 a0 d0=>?_;have F:Ext m m1:=⟨by omega,d0⟩
 have g1:m1.get m.n=.cells [r,v] 60 none:=a0;unfold ptrTo;refine cG (λvs m' lo=>∃b,vs=[.bool b]/\m'=m1/\m.n<=lo/\(b=false->0 < l.length)) (λR hR=>?_) ?_
 ·refine ai bK (ai bu ?_);refine ai (KZ g1) ?_;rw[(hF.aD F).sl.len eg,aE,aY,ae,an];refine aq (λh0=>?_) (λh0=>?_);·exact hR _ _ _ ⟨true,rfl,rfl,by omega,λh=>by cases h⟩
  have h0:=abv h0;refine az (cK H W (by decide)) ?_;rw[aY,ae];exact hR _ _ _ ⟨_,rfl,rfl,by omega,λ_=>by omega⟩
 rintro _ m' lo ⟨b,rfl,rfl,l0,hb⟩;rw[aH,an];refine aq (λh=>?_) (λh=>?_)
 ·refine az (cK H W (by decide)) ?_;exact .inl ⟨rfl,by omega,rfl,rfl,_,rfl⟩
 have j0:=hb h;refine ai bK (ai bu ?_);refine ai (KZ g1) ?_;rw[gZ (by decide),ae];refine ai bK (ai bu ?_);refine ai (KZ g1) ?_;rw[(hF.aD F).sl.len eg,aE];refine az (cK H (jM _) (by omega)) ?_;refine⟨Ξ _,?_⟩;obtain⟨q1,q2⟩:=ml (c:=IntKind.i64.wrap (c.tdiv 16)) (n:=(l.length:Int)) (by omega);obtain⟨k,hk⟩:∃k:Nat,cU (IntKind.i64.wrap (c.tdiv 16)) (l.length:Int)=k:=⟨(cU (IntKind.i64.wrap (c.tdiv 16)) (l.length:Int)).toNat,by omega⟩
 rw[hk];obtain⟨x,hx⟩:∃x,l[k]?=some x:=⟨_,Φ (by omega)⟩
 obtain⟨b0,o0,bc,g0,cs,e1,e0,i0, -,hj⟩:=(hF.aD F).sl.lU eg (k:=.i64) hx;obtain⟨rfl, -⟩:cs=x.c/\one x.w=true:=i0;refine ai e1 (ai bE ?_);refine ai (show ah TE m' 3 (aeb b0 (o0+0))=some (.int .i64 x.u.id) by rw[cd,aF e0];exact(hj 0 (by decide)).trans rfl) ?_;exact .inl ⟨rfl,by omega,rfl,rfl,_,rfl⟩
abbrev WO:aee:=[.int .i64 0,.int .i64 0,.int .i64 0,.int .i64 0,.slice none 0 0,.int .i64 0,.int .i64 0,.int .i64 0,.int .i64 0,.int .i64 0,.int .i64 0,.int .i64 0,.int .i64 0,.int .i64 0,.bool false]
abbrev zU(id:Int):Un:=⟨id,0,0,[],0,0⟩
abbrev zM:Mk:=⟨0,0,0,0,false⟩
theorem qR:TE.ty.get 91=some ag.t91:=by kernel_rfl
theorem jq{H:M}{rc lo:Nat}{a:Ac}{w:aed}{cs:aee}(hg:H.get rc=.cells cs 91 none)(hl:cs.length=15)(hx:Ext m H)(a0:m.n<=rc)(b0:m.n<=lo)(hs:Sl H a.un.shape w)(h4:a.un.shape.length<=4){R:aee->M->Nat->Prop}
  (hR:∀(a:Ac) (w:aed) (m':M) lo,Ext m m'->m.n<=lo->Sl m' a.un.shape w->a.un.shape.length<=4->R [a.v w] m' lo):
  aT (aA TE H 91 (aeb rc 0) (a.v w)) λm1 b1=>aj (ah TE m1 91 (aeb rc 0)) λv=>R [v] m1 (min lo b1):=by
 have o1:=hs.one;refine aC qR hg rfl (by rw[hl];rfl) (by show((a.c w).toArray.toList).all D.one=true;simp[D.one]at o1⊢;exact o1) λm2 d0 W F=>?_;have g2:m2.get rc=.cells (a.c w) 91 none:=W;refine ai (e8 g2) ?_;refine hR a w m2 _ ⟨by have:=hx.n;omega,λc hc=>by rw[F c (by omega),hx.get c hc]⟩ (by omega) (hs.bH λb c t g hb ht=>?_) h4;have ht:t=98:=by simpa[aP.ty,aP.fx]using ht
 subst ht;rw[F b (λe=>by subst e;rw[hg]at hb;cases hb),hb]
theorem QX(hX:cV X)(hF:cJ m l r)(hl:l.length < 1000)(hM:Sl m ms v)(j1:ms.length < 1000){i0 i1 i2 i3 i4 i5:Int}(h0:lu i0)(h1:lu i1)(h2:lu i2)(h3:lu i3)(h4:lu i4)(h5:lu i5):
  ∃(a:Ac) (w:aed) (m':M),C X (.func 41) [.agg #[r,v],.agg #[.int .i64 i0,.int .i64 i1,.int .i64 i2,.int .i64 i3,.int .i64 i4,.int .i64 i5]] m m.n (a.v w) m'/\Ext m m'/\Sl m' a.un.shape w/\a.un.shape.length<=4:=by
 have key:=Cl.gen (E:=TE) (X:=X) (f:=41) (args:=[.agg #[r,v],.agg #[.int .i64 i0,.int .i64 i1,.int .i64 i2,.int .i64 i3,.int .i64 i4,.int .i64 i5]]) (m:=m) (R:=λrv m' b=>b=m.n/\∃(a:Ac) (w:aed),rv=a.v w/\Ext m m'/\Sl m' a.un.shape w/\a.un.shape.length<=4) (hX.no _ rfl) VA rfl ?_
 ·obtain⟨rv,m',b,W,rfl,a,w,rfl,h⟩:=key;exact⟨a,w,m',W,h⟩
 generalize J0:(λ(vs:aee) (m':M) (lo:Nat)=>(bP (aO vs)=true/\m.n<=lo/\(m.n=m.n/\∃(a:Ac) (w:aed),aO vs=a.v w/\Ext m m/\Sl m a.un.shape w/\a.un.shape.length<=4))\/((bP (aO vs)=false\/lo < m.n)/\(min m.n lo=m.n/\∃(a:Ac) (w:aed),aO vs=a.v w/\Ext m m'/\Sl m' a.un.shape w/\a.un.shape.length<=4)))=RR
 have hR:∀(a:Ac) (w:aed) (m':M) lo,Ext m m'->m.n<=lo->Sl m' a.un.shape w->a.un.shape.length<=4->RR [a.v w] m' lo:=λa w m' lo hx K0 hs L0=>by
  rw[<-J0]
  cases hf:bP (aO [a.v w])with
  |false=>exact .inr ⟨.inl hf,by omega,a,w,rfl,hx,hs,L0⟩
  |true=>
   refine .inl ⟨hf,K0,rfl,a,w,rfl,.refl,?_,L0⟩;rcases hs with h |⟨b,o,c,bc,g,rfl, -⟩;·exact .inl h
   exfalso;simp[aO,bP,gI,cy]at hf
 clear J0;rw[F41];dsimp only[aI,δ,ε,ζ,η,θ,ι,κ,ς,υ,φ,χ,ψ];refine au λm1 k1 Q0 S0=>?_;refine au λm2 o1 T0 M0=>?_;refine au λm3 p1 U0 E0=>?_;have d0:Ext m m3:=⟨by omega,λc W=>by rw[E0 c (by omega),M0 c (by omega),S0 c W]⟩
 have gs:m3.get m.n=.cells [r,v] 60 none:=by rw[E0 _ (by omega),M0 _ (by omega)];exact Q0
 have g6:m3.get m1.n=.cells [.int .i64 i0,.int .i64 i1,.int .i64 i2,.int .i64 i3,.int .i64 i4,.int .i64 i5] 85 none:=by rw[E0 _ (by omega)];exact T0
 have gR:m3.get m2.n=.cells WO 91 none:=U0;have D0:=hF.aD d0;have V0:=hM.aD d0;unfold ptrTo
 have ix:∀i:Nat,i < 6->ak TE 85 (aeb m1.n 0) (.int .i64 i)=some (aeb m1.n i):=λi hi=>by have:=OM (b:=m1.n) (o:=0) (k:=.i64) (i:=i) hi;rwa[aaq]at this
 have F:∀{mm:M} {i:Nat} {x:Int},Ext m3 mm->[i0,i1,i2,i3,i4,i5][i]?=some x->ah TE mm 3 (aeb m1.n i)=some (.int .i64 x):=λ{mm i x} hx hi=>by
  have W:[Value.int .i64 i0,.int .i64 i1,.int .i64 i2,.int .i64 i3,.int .i64 i4,.int .i64 i5][i]?=some (.int .i64 x):=by
   have:([i0,i1,i2,i3,i4,i5].map (Value.int .i64))[i]?=some (.int .i64 x):=by rw[aaA,hi];rfl
   exact this
  rw[cd,aF (hx.cells g6),W]
 have e0:ak TE 85 (aeb m1.n 0) (.int .i64 0)=some (aeb m1.n 0):=ix 0 (by decide);have e1:ak TE 85 (aeb m1.n 0) (.int .i64 1)=some (aeb m1.n 1):=ix 1 (by decide);have e2:ak TE 85 (aeb m1.n 0) (.int .i64 2)=some (aeb m1.n 2):=ix 2 (by decide);have e3:ak TE 85 (aeb m1.n 0) (.int .i64 3)=some (aeb m1.n 3):=ix 3 (by decide);have e4:ak TE 85 (aeb m1.n 0) (.int .i64 4)=some (aeb m1.n 4):=ix 4 (by decide);have e5:ak TE 85 (aeb m1.n 0) (.int .i64 5)=some (aeb m1.n 5):=ix 5 (by decide);refine ai e0 (ai (F .refl rfl) ?_);refine az (cK hX h0 (by decide)) ?_;generalize cU i0 8=z0;rw[aY,ae,an];refine aq (λhv=>?_) (λ_=>?_)
 ·rw[hv,an,bU];refine ai e1 (ai (F .refl rfl) ?_);refine ai e2 (ai (F .refl rfl) ?_);refine ai e3 (ai (F .refl rfl) ?_);refine ai e4 (ai (F .refl rfl) ?_);refine ai e4 (ai (F .refl rfl) ?_);rw[gZ (by decide),ae];refine ai e5 (ai (F .refl rfl) ?_);refine ai e5 (ai (F .refl rfl) ?_);rw[gZ (by decide),ae];refine ai (v:=.agg #[.int .i64 i2,.int .i64 i3,.int .i64 i4,.int .i64 (IntKind.i64.wrap (i4.tdiv 4)),.int .i64 i5,.int .i64 (IntKind.i64.wrap (i5.tdiv 8))]) rfl ?_;obtain⟨u,w,X0,r0,j0,s0,u0⟩:=wU (m:=m3) hX h1 h2 h3 h4 (jM (i4.tdiv 4)) h5 (jM (i5.tdiv 8));refine az r0 ?_;have F0:=j0.n;refine ai (v:=(⟨1,u,0,0,0,zM⟩:Ac).v w) rfl ?_;exact jq (a:=⟨1,u,0,0,0,zM⟩) (j0.cells gR) rfl (d0.trans j0) (by omega) (by omega) s0 u0 hR
 rw[aY,ae,an];refine aq (λhv=>?_) (λ_=>?_)
 ·refine ai e1 (ai (F .refl rfl) ?_);refine ai e2 (ai (F .refl rfl) ?_);refine ai e3 (ai (F .refl rfl) ?_);refine ai e4 (ai (F .refl rfl) ?_);refine ai e4 (ai (F .refl rfl) ?_);rw[gZ (by decide),ae];refine ai e5 (ai (F .refl rfl) ?_);refine ai e5 (ai (F .refl rfl) ?_);rw[gZ (by decide),ae];refine ai (v:=.agg #[.int .i64 i2,.int .i64 i3,.int .i64 i4,.int .i64 (IntKind.i64.wrap (i4.tdiv 4)),.int .i64 i5,.int .i64 (IntKind.i64.wrap (i5.tdiv 8))]) rfl ?_;obtain⟨u,w,X0,r0,j0,s0,u0⟩:=wU (m:=m3) hX h1 h2 h3 h4 (jM (i4.tdiv 4)) h5 (jM (i5.tdiv 8));refine az r0 ?_;have F0:=j0.n;refine ai (v:=(⟨1,u,0,0,0,zM⟩:Ac).v w) rfl ?_;exact jq (a:=⟨1,u,0,0,0,zM⟩) (j0.cells gR) rfl (d0.trans j0) (by omega) (by omega) s0 u0 hR
 rw[aY,ae,an];refine aq (λhv=>?_) (λ_=>?_)
 ·refine ai (eR gs) (ai e1 ?_);refine ai (F .refl rfl) ?_;obtain⟨z,W⟩:=oN (v:=v) hX D0 hl h1;refine az W ?_;refine ai (v:=(⟨2,zU 0,z,0,0,zM⟩:Ac).v aeg) rfl ?_;exact jq (a:=⟨2,zU 0,z,0,0,zM⟩) gR rfl d0 (by omega) (by omega) Sl.nil (by show 0<=4;decide) hR
 rw[aY,ae,an];refine aq (λhv=>?_) (λ_=>?_)
 ·refine ai (eR gs) (ai e1 ?_);refine ai (F .refl rfl) ?_;obtain⟨z,W⟩:=oN (v:=v) hX D0 hl h1;refine az W ?_;refine⟨Ξ _,?_⟩;refine ai e2 (ai (F .refl rfl) ?_);refine az (cK hX h2 (by decide)) ?_;refine⟨Ξ _,?_⟩;refine ai e3 (ai (F .refl rfl) ?_);refine az (cK hX h3 (by decide)) ?_;refine⟨Ξ _,?_⟩;refine ai (v:=(⟨3,zU 0,z,cU i2 4,cU i3 4,zM⟩:Ac).v aeg) rfl ?_;refine au λm5 N0 v0 A0=>?_;refine aC qR v0 rfl rfl rfl λm6 O0 B0 C0=>?_;have H:Ext m3 m6:=⟨by omega,λc W=>by rw[C0 c (by omega),A0 c W]⟩
  have a0:m6.get m3.n=.cells ((⟨3,zU 0,z,cU i2 4,cU i3 4,zM⟩:Ac).c aeg) 91 none:=B0;refine ai cn (ai (eX a0).2.2.1 ?_);refine ai cq (ai (eX a0).2.2.2.1 ?_);rw[aY,ae,an];refine aq (λ_=>?_) (λ_=>?_)
  ·refine ai cn (ai (eX a0).2.2.1 ?_);rw[aQ,ae,pA (by decide),ae];generalize (IntKind.i64.wrap (cU i2 4+2)).tmod 4=k2;refine ai cq ?_;refine bW mO a0 rfl (by show 0+9+1<=15;omega) rfl λm7 r1 Y0 a1=>?_;have g7:m7.get m3.n=.cells ((⟨3,zU 0,z,cU i2 4,k2,zM⟩:Ac).c aeg) 91 none:=Y0;have P0:Ext m3 m7:=⟨by omega,λc W=>by rw[a1 c (by omega),H.get c W]⟩
   refine ai aW (ai (eX g7).2.1 ?_);rw[aQ,ae];refine ai e4 (ai (F P0 rfl) ?_);refine az (cK hX h4 (by decide)) ?_;refine⟨Ξ _,?_⟩;rw[aQ,ae,pA (by decide),ae];refine ai bN (ai bE ?_);refine bW mO g7 rfl (by show 0+1+0+1<=15;omega) rfl λm8 G0 l0 q0=>?_;generalize (IntKind.i64.wrap (IntKind.i64.wrap (z+40)+cU i4 20)).tmod 100=y at*;have g8:m8.get m3.n=.cells ((⟨3,zU y,z,cU i2 4,k2,zM⟩:Ac).c aeg) 91 none:=l0;have k0:Ext m3 m8:=⟨by omega,λc W=>by rw[q0 c (by omega),P0.get c W]⟩
   refine ai (e8 g8) ?_;exact jq (a:=⟨3,zU y,z,cU i2 4,k2,zM⟩) (k0.cells gR) rfl (d0.trans k0) (by omega) (by omega) Sl.nil (by show 0<=4;decide) hR
  refine ai aW (ai (eX a0).2.1 ?_);rw[aQ,ae];refine ai e4 (ai (F H rfl) ?_);refine az (cK hX h4 (by decide)) ?_;refine⟨Ξ _,?_⟩;rw[aQ,ae,pA (by decide),ae];refine ai bN (ai bE ?_);refine bW mO a0 rfl (by show 0+1+0+1<=15;omega) rfl λm8 G0 l0 q0=>?_;generalize (IntKind.i64.wrap (IntKind.i64.wrap (z+40)+cU i4 20)).tmod 100=y at*;have g8:m8.get m3.n=.cells ((⟨3,zU y,z,cU i2 4,cU i3 4,zM⟩:Ac).c aeg) 91 none:=l0;have k0:Ext m3 m8:=⟨by omega,λc W=>by rw[q0 c (by omega),H.get c W]⟩
  refine ai (e8 g8) ?_;exact jq (a:=⟨3,zU y,z,cU i2 4,cU i3 4,zM⟩) (k0.cells gR) rfl (d0.trans k0) (by omega) (by omega) Sl.nil (by show 0<=4;decide) hR
 rw[aY,ae,an];refine aq (λhv=>?_) (λ_=>?_)
 ·refine ai (eR gs) (ai e1 ?_);refine ai (F .refl rfl) ?_;obtain⟨z,W⟩:=oN (v:=v) hX D0 hl h1;refine az W ?_;refine⟨Ξ _,?_⟩;refine ai e2 (ai (F .refl rfl) ?_);refine az (cK hX h2 (by decide)) ?_;refine⟨Ξ _,?_⟩;rw[fB,ae,ej,ae];refine ai e3 (ai (F .refl rfl) ?_);refine az (cK hX h3 (by decide)) ?_;refine⟨Ξ _,?_⟩;rw[fB,ae,ej,ae];generalize IntKind.i64.wrap (4*IntKind.i64.wrap (cU i2 7-3))=ya;generalize IntKind.i64.wrap (4*IntKind.i64.wrap (cU i3 5-2))=yb;refine ai (v:=(⟨4,zU 0,z,ya,yb,zM⟩:Ac).v aeg) rfl ?_;refine au λm5 N0 v0 A0=>?_;refine aC qR v0 rfl rfl rfl λm6 O0 B0 C0=>?_;have H:Ext m3 m6:=⟨by omega,λc W=>by rw[C0 c (by omega),A0 c W]⟩
  have a0:m6.get m3.n=.cells ((⟨4,zU 0,z,ya,yb,zM⟩:Ac).c aeg) 91 none:=B0;refine cG (λvs m' lo=>∃b,vs=[.bool b]/\m'=m6/\m.n<=lo) (λR hR=>?_) ?_
  ·refine ai cn (ai (eX a0).2.2.1 ?_);rw[aY,ae,an];refine aq (λ_=>?_) (λ_=>?_)
   ·refine ai cq (ai (eX a0).2.2.2.1 ?_);rw[aY,ae];exact hR _ _ _ ⟨_,rfl,rfl,by omega⟩
   exact hR _ _ _ ⟨_,rfl,rfl,by omega⟩
  rintro _ m' lo ⟨b,rfl,rfl,K0⟩;rw[aH,an];refine aq (λ_=>?_) (λ_=>?_)
  ·refine ai e4 (ai (F H rfl) ?_);refine az (cK hX h4 (by decide)) ?_;rw[aQ,ae];generalize IntKind.i64.wrap (1+cU i4 3)=y;refine ai cn ?_;refine bW mO a0 rfl (by show 0+8+1<=15;omega) rfl λm8 G0 l0 q0=>?_;have g8:m8.get m3.n=.cells ((⟨4,zU 0,z,y,yb,zM⟩:Ac).c aeg) 91 none:=l0;have k0:Ext m3 m8:=⟨by omega,λc W=>by rw[q0 c (by omega),H.get c W]⟩
   refine ai (e8 g8) ?_;exact jq (a:=⟨4,zU 0,z,y,yb,zM⟩) (k0.cells gR) rfl (d0.trans k0) (by omega) (by omega) Sl.nil (by show 0<=4;decide) hR
  refine ai (e8 a0) ?_;exact jq (a:=⟨4,zU 0,z,ya,yb,zM⟩) (H.cells gR) rfl (d0.trans H) (by omega) (by omega) Sl.nil (by show 0<=4;decide) hR
 rw[aY,ae,an];refine aq (λhv=>?_) (λ_=>?_)
 ·refine ai e1 (ai (F .refl rfl) ?_);refine az (cK hX h1 (by decide)) ?_;refine⟨Ξ _,?_⟩;refine ai (eR gs) (ai e2 ?_);refine ai (F .refl rfl) ?_;obtain⟨z,W⟩:=oN (v:=v) hX D0 hl h2;refine az W ?_;refine⟨Ξ _,?_⟩;refine ai e3 (ai (F .refl rfl) ?_);refine az (cK hX h3 (by decide)) ?_;refine⟨Ξ _,?_⟩;rw[fB,ae];refine ai e4 (ai (F .refl rfl) ?_);refine az (cK hX h4 (by decide)) ?_;refine⟨Ξ _,?_⟩;rw[aQ,ae];refine ai e4 (ai (F .refl rfl) ?_);refine az (cK hX h4 (by decide)) ?_;rw[aY,ae];generalize decide (cU i4 2=0)=q;generalize IntKind.i64.wrap (1+cU i4 5)=y;generalize IntKind.i64.wrap (cU i3 6-2)=y2;refine ai (v:=(⟨cU i1 20,z,y2,y,q⟩:Mk).v) rfl ?_;refine ai (v:=(⟨5,zU 0,0,0,0,⟨cU i1 20,z,y2,y,q⟩⟩:Ac).v aeg) rfl ?_
  exact jq (a:=⟨5,zU 0,0,0,0,⟨cU i1 20,z,y2,y,q⟩⟩) gR rfl d0 (by omega) (by omega) Sl.nil (by show 0<=4;decide) hR
 refine ai e2 (ai (F .refl rfl) ?_);refine az (cK hX h2 (by decide)) ?_;refine⟨Ξ _,?_⟩;rw[aQ,ae];generalize IntKind.i64.wrap (6+cU i2 2)=kd;refine ai e1 (ai (F .refl rfl) ?_);refine az (cK hX h1 (by decide)) ?_;refine⟨Ξ _,?_⟩;generalize cU i1 12=US;refine ai (v:=(⟨kd,zU 0,US,0,0,zM⟩:Ac).v aeg) rfl ?_;refine au λm5 N0 v0 A0=>?_;refine aC qR v0 rfl rfl rfl λm6 O0 B0 C0=>?_;have H:Ext m3 m6:=⟨by omega,λc W=>by rw[C0 c (by omega),A0 c W]⟩
 have a0:m6.get m3.n=.cells ((⟨kd,zU 0,US,0,0,zM⟩:Ac).c aeg) 91 none:=B0;have H0:=H.cells gs;have I0:=V0.aD H;refine ai bX (ai (La H0) ?_);rw[I0.len eU,aE,dq,ae,an];refine aq (λhp=>?_) (λ_=>?_)
 ·have hp:=abe hp;refine ai bX (ai (La H0) ?_);refine ai e1 (ai (F H rfl) ?_);refine ai bX (ai (La H0) ?_);rw[I0.len eU,aE];refine az (cK hX h1 (by omega)) ?_;refine⟨Ξ _,?_⟩;obtain⟨q1,q2⟩:=ml (c:=i1) (n:=(ms.length:Int)) (by omega);obtain⟨k,hk⟩:∃k:Nat,cU i1 (ms.length:Int)=k:=⟨(cU i1 (ms.length:Int)).toNat,by omega⟩
  rw[hk];obtain⟨x,hx⟩:∃x,ms[k]?=some x:=⟨_,Φ (by omega)⟩
  obtain⟨b0,o0,bc,g0,cs,c1,d1,g1, -,hj⟩:=I0.lU eU (k:=.i64) hx;obtain rfl:cs=x.c:=g1;refine ai c1 (ai cH ?_);refine ai (show ah TE m6 3 (aeb b0 (o0+0))=some (.int .i64 x.id) by rw[cd,aF d1];exact(hj 0 (by decide)).trans rfl) ?_;refine ai aW ?_;refine bW mO a0 rfl (by show 0+7+1<=15;omega) rfl λm8 G0 l0 q0=>?_;have g8:m8.get m3.n=.cells ((⟨kd,zU 0,x.id,0,0,zM⟩:Ac).c aeg) 91 none:=l0;have k0:Ext m3 m8:=⟨by omega,λc W=>by rw[q0 c (by omega),H.get c W]⟩
  refine ai (e8 g8) ?_;exact jq (a:=⟨kd,zU 0,x.id,0,0,zM⟩) (k0.cells gR) rfl (d0.trans k0) (by omega) (by omega) Sl.nil (by show 0<=4;decide) hR
 refine ai (e8 a0) ?_;exact jq (a:=⟨kd,zU 0,US,0,0,zM⟩) (H.cells gR) rfl (d0.trans H) (by omega) (by omega) Sl.nil (by show 0<=4;decide) hR
end
theorem BF{us:List Un}{ids:List Int}{i:Nat}{id x y:Int}(h:ids[i]?=some id):eh us (ids.take (i+1)) x y=(eh us (ids.take i) x y ||eh us [id] x y):=by unfold eh;rw[abo,h,List.any_append];rfl
theorem BE{us:List Un}{id x y:Int}{u:Un}(h:cM us id=some u):eh us [id] x y=decide (0<=ka u.shape x y):=by unfold eh;simp only[adR,List.any_nil,aax,h]
theorem BG{us:List Un}{id x y:Int}(h:cM us id=none):eh us [id] x y=false:=by unfold eh;simp only[adR,List.any_nil,aax,h]
theorem BJ{us:List Un}{ids:List Int}{i:Nat}{x y:Int}(h:ids.length<=i):eh us (ids.take i) x y=eh us ids x y:=by rw[aa5 h]
theorem BH{us:List Un}{ids:List Int}{i:Nat}{x y:Int}(h:eh us (ids.take i) x y=true):eh us ids x y=true:=by unfold eh at h⊢;rw[ace]at h⊢;obtain⟨a,F,H⟩:=h;exact⟨a,adO F,H⟩
theorem Ri{ids:List Int}{w:aed}(h:Sl m ids w){i:Nat}{z:Int}(W:ids[i]?=some z):∃a,ak TE 25 w (.int .i64 i)=some a/\ah TE m 3 a=some (.int .i64 z):=by obtain⟨b0,o0,bc,g0,cs,e1,F,H, -,hj⟩:=h.lU lC (k:=.i64) W;obtain rfl:cs=[.int .i64 z]:=H;refine⟨_,e1,?_⟩;rw[cd,aF F];exact(hj 0 (by decide)).trans rfl
theorem ry(hX:cV X){l:List UW}{r w:aed}{ids:List Int}(hF:cJ m l r)(hP:cF (bR l))(hI:Sl m ids w)(F0:ids.length < 1000000)(x y:Int):
  C X (.func 45) [.agg #[r],w,.int .i64 x,.int .i64 y] m m.n (.bool (eh (bR l) ids x y)) m:=by
 refine Cl.flat (hX.no _ rfl) Vw rfl rfl ?_;rw[F45];dsimp only[aI,δ,ε,ζ,η,ι,κ,ξ,ς,υ,φ,χ,ψ];refine au λm1 G0 z0 A0=>?_;have B0:Ext m m1:=⟨by omega,A0⟩
 have g1:m1.get m.n=.cells [r] 31 none:=z0;unfold ptrTo;refine Lp.nc (γ:=Nat) (λi=>ids.length-i) (λi vs mm lo=>vs=[aei,.int .i64 i]/\i<=ids.length/\Ext m1 mm/\m.n<=lo/\eh (bR l) (ids.take i) x y=false) 0 ⟨rfl,aaQ _,.refl,by omega,rfl⟩ ?_;rintro i vs mm lo ⟨rfl,hi,hx,H0,k0⟩ P r0;have l0:=B0.trans hx;have I0:=hx.n;rw[aH,aH,(hI.aD l0).len lC,aE,aX,ae,an];refine aq (λa0=>?_) (λo0=>?_)
 ·have a0:i < ids.length:=by
   have:=abe a0
   omega
  obtain⟨id,hid⟩:∃id,ids[i]?=some id:=⟨_,Φ a0⟩
  have F:=BF (us:=bR l) (x:=x) (y:=y) hid
  rw[k0,aaE]at F
  refine ai (show ah TE mm 31 (aeb m.n 0)=some (.agg #[r]) by rw[dp,aJ (n:=1) (hx.cells g1) (by show 0+1<=1;decide)];rfl) ?_
  obtain⟨a,q1,q2⟩:=Ri (hI.aD l0) hid
  refine ai q1 ?_
  refine ai q2 ?_
  obtain⟨ov,q0,s0,b0,g0⟩:=uA hX (hF.aD l0) hP id
  refine az s0 ?_
  have C0:=b0.n
  refine⟨Ξ _,?_⟩
  refine ai (v:=ov) rfl ?_
  refine ai (v:=.bool (cM (bR l) id).isSome) rfl ?_
  refine au λJ0 E0 h0 i0=>?_
  cases hu:cM (bR l) id with
  |none=>
   rw[BG hu]at F;rw[hu]at g0;obtain rfl:ov=_:=g0;refine aC ep h0 rfl rfl rfl λW u0 j0 d0=>?_;have H:Ext q0 W:=⟨by omega,λc hc=>by rw[d0 c (by omega),i0 c hc]⟩
   refine cG (λvs m' lo=>vs=[aei]/\m'=W/\m.n<=lo) (λR hR=>?_) ?_
   ·rw[an];show Ce false _ _;rw[aM];exact hR _ _ _ ⟨rfl,rfl,by omega⟩
   rintro _ m' D0 ⟨rfl,rfl,e0⟩;rw[aH,an,aM,aQ,ae,wrap64 (by omega) (by omega)];exact r0 (i+1) _ _ _ (by omega) ⟨by push_cast;rfl,a0,(hx.trans b0).trans H,e0,F⟩
  |some u=>
   rw[BE hu]at F;rw[hu]at g0;obtain⟨w',rfl,v0⟩:=g0;refine aC ep h0 rfl rfl (Un.eN v0.one) λW u0 j0 d0=>?_;have H:Ext q0 W:=⟨by omega,λc hc=>by rw[d0 c (by omega),i0 c hc]⟩
   have g21:W.get q0.n=.cells (u.c w') 87 none:=j0;have hlen:=cx (dP (hP.val u (eW hu).1));refine cG (λvs m' lo=>vs=[.bool (decide (0<=ka u.shape x y))]/\m'=W/\m.n<=lo) (λR hR=>?_) ?_
   ·rw[an];show Ce true _ _;rw[bU];refine ai bA (ai (pV g21).2.2.2.1 ?_);refine az (Ap hX (v0.aD H) (by omega) x y) ?_;rw[cO,ae];exact hR _ _ _ ⟨rfl,rfl,by omega⟩
   rintro _ m' D0 ⟨rfl,rfl,e0⟩;rw[aH,an];refine aq (λhb=>?_) (λhb=>?_)
   ·rw[hb]at F;rw[BH F];exact⟨rfl,by omega⟩
   rw[hb]at F;rw[aQ,ae,wrap64 (by omega) (by omega)];exact r0 (i+1) _ _ _ (by omega) ⟨by push_cast;rfl,a0,(hx.trans b0).trans H,e0,F⟩
 have o0:ids.length<=i:=by have:=abv o0;omega
 rw[BJ o0]at k0;rw[k0];exact⟨rfl,by omega⟩
theorem tF{w:Nat}{l l':List Int}:∀{n:Nat} {p:Pl},p∈eH w l l' n->∃i,i < n/\l[i]?≠l'[i]?/\p=⟨((i%w:Nat):Int),((i/w:Nat):Int)⟩
 |0,p,h=>by simp[eH]at h
 |n+1,p,h=>by
  unfold eH at h
  rw[aaR]at h
  rcases h with h |h
  ·obtain⟨i,h1,H,W⟩:=tF h
   exact⟨i,by omega,H,W⟩
  ·split at h
   ·simp at h
   ·rename_i F
    simp only[aaS,acp,or_false]at h
    exact⟨n,by omega,F,h⟩
theorem rS{us:List Un}{b:Bool}{i:Nat}(hi:i < 1600):(dh us b)[i]?=some (gP us b ((i%40:Nat):Int) ((i/40:Nat):Int)):=by
 have F:i%40 < 40:=ab7 _ (by decide);have H:i/40 < 40:=by omega
 have:=Ci (g:=λi j=>gP us b i j) (w:=40) F (h:=40) H;have e:i/40*40+i%40=i:=by omega
 rw[e]at this;exact this
theorem UH{ps:List Pl}{w:aed}(h:Sl m ps w){i:Nat}{p:Pl}(hp:ps[i]?=some p):∃b o,ak TE 45 w (.int .i64 i)=some (aeb b o)/\ah TE m 3 (aeb b (o+0))=some (.int .i64 p.x)/\ah TE m 3 (aeb b (o+1))=some (.int .i64 p.y):=by
 obtain⟨b0,o0,bc,g0,cs,e1,F,H, -,W⟩:=h.lU dS (k:=.i64) hp;obtain rfl:cs=p.c:=H;refine⟨b0,o0,e1,?_,?_⟩ <;>rw[cd,aF F]
 ·exact(W 0 (by decide)).trans rfl
 exact(W 1 (by decide)).trans rfl
theorem yW{b:Nat}{v:aed}{g:Option Nat}(h:m.get b=.cells [.int .i64 40,.int .i64 40,v] 27 g):ah TE m 27 (aeb b 0)=some (qO 40 40 v):=by rw[kh,aJ (n:=3) h (by show 0+3<=3;decide)];rfl
theorem GO{us vs:List Un}{ms F:List Mk}{a:Ac}(h:nv us ms a=some (vs,F)):dZ a=true/\tD us ms a=some (vs,F):=by
 unfold nv at h;split at h
 ·rename_i H;split at h
  ·rename_i W a0 hd;split at h;·cases h;exact⟨H,hd⟩
   cases h
  cases h
 cases h
theorem Cx(hX:cV X)(hI:me X)(hG:qM X)(g3:PC X)(S0:∀m1:M,2 < m1.n->C X (.func 8) [] m1 m1.n aeh m1)(m4:2 < m.n){xs:List I6}{ks:List I4}{vb vk va:aed}(hv:CR m xs vb)(j3:∀x∈xs,x.ok)(hlen:xs.length < 9223372036854775808)(hk:CR m ks vk)(r1:∀x∈ks,x.ok)(T0:ks.length < 9223372036854775808)
  {i0 i1 i2 i3 i4 i5:Int} (h0:lu i0) (h1:lu i1) (h2:lu i2) (h3:lu i3) (h4:lu i4) (h5:lu i5):
  C X (.func 6) [.agg #[vb,vk,va],.agg #[.int .i64 i0,.int .i64 i1,.int .i64 i2,.int .i64 i3,.int .i64 i4,.int .i64 i5]] m m.n aeh m:=by
 refine Cl.flat (hX.no _ rfl) XP rfl rfl ?_
 rw[F6];dsimp only[aI,δ,ε,ζ,η,ι,κ,ν,ξ,ο,ς,υ,φ,χ,ψ]
 refine au λm1 n4 k3 l3=>?_
 refine au λm2 o4 m3 u1=>?_
 have v1:Ext m m2:=⟨by omega,λc hc=>by rw[u1 c (by omega),l3 c hc]⟩
 have gN:m2.get m.n=.cells [vb,vk,va] 57 none:=by rw[u1 _ (by omega)];exact k3
 have g6:m2.get m1.n=.cells [.int .i64 i0,.int .i64 i1,.int .i64 i2,.int .i64 i3,.int .i64 i4,.int .i64 i5] 85 none:=m3
 unfold ptrTo
 refine az (S0 m2 (by omega)) ?_
 rw[bM,ae,an,aal,aM]
 refine ai (show ah TE m2 57 (aeb m.n 0)=some (.agg #[vb,vk,va]) by rw[Oo,aJ (n:=3) gN (by show 0+3<=3;decide)];rfl) ?_
 obtain⟨l,r,ms,vm,m9,n3,z1,B0,hP,U0,A1⟩:=Hy (m:=m2) (va:=va) hX (hv.aD v1) j3 hlen (hk.aD v1) r1 T0
 refine az n3 ?_
 have V3:=z1.n
 have B1:=hP.len
 rw[dE]at B1
 have r4:=A1.len
 refine au λs4 X3 C1 D1=>?_
 have or:one r=true:=B0.sl.one
 have om:one vm=true:=U0.one
 refine aC mi C1 rfl rfl (by show(one r && (one vm && true))=true;rw[or,om];rfl) λC0 Y3 E1 F1=>?_
 have gS:C0.get m9.n=.cells [r,vm] 60 none:=E1
 have b0:Ext m9 C0:=⟨by omega,λc hc=>by rw[F1 c (by omega),D1 c hc]⟩
 refine ai (eR gS) ?_
 have o3:=b0.n
 refine ai (show ah TE C0 85 (aeb m1.n 0)=some (.agg #[.int .i64 i0,.int .i64 i1,.int .i64 i2,.int .i64 i3,.int .i64 i4,.int .i64 i5]) by rw[On,aJ (n:=6) ((z1.trans b0).cells g6) (by show 0+6<=6;decide)];rfl) ?_
 obtain⟨a,w,G1,H1,o0,q0,u4⟩:=QX (m:=C0) hX (B0.aD b0) (by omega) (U0.aD b0) (by omega) h0 h1 h2 h3 h4 h5
 refine az H1 ?_
 have r3:=o0.n
 refine au λv4 a4 I1 J1=>?_
 have ow:=q0.one
 refine aC qR I1 rfl rfl (by show((a.c w).toArray.toList).all D.one=true;simp[D.one]at ow⊢;exact ow) λV0 b4 K1 L1=>?_
 have gA:V0.get G1.n=.cells (a.c w) 91 none:=K1
 have j0:Ext G1 V0:=⟨by omega,λc hc=>by rw[L1 c (by omega),J1 c hc]⟩
 have G0:=j0.cells (o0.cells gS)
 have X0:=(b0.trans o0).trans j0
 refine ai (eR G0) ?_
 refine ai (e8 gA) ?_
 obtain⟨rv,N1,O1,H0,k0⟩:=Nl (m:=V0) hX hI hG g3 (B0.aD X0) hP (U0.aD X0) A1 (q0.aD j0) (by omega)
 refine az O1 ?_
 have s3:=H0.n
 obtain⟨r',v',z,rfl,or',u3⟩:=k0.form
 refine ai (v:=.agg #[r',v']) rfl ?_
 refine ai (v:=.int .i64 z) rfl ?_
 refine au λw4 d4 P1 Q1=>?_
 refine aC mi P1 rfl rfl (by show(one r' && (one v' && true))=true;rw[or',u3];rfl) λD0 e4 S1 T1=>?_
 have gT:D0.get N1.n=.cells [r',v'] 60 none:=S1
 have r0:Ext N1 D0:=⟨by omega,λc hc=>by rw[T1 c (by omega),Q1 c hc]⟩
 rw[da,ae,an]
 refine aq (λhz=>?_) (λhz=>?_)
 ·exact⟨rfl,by omega⟩
 have hz:z=0:=by rw[abI]at hz;exact abe hz
 subst hz
 unfold jJ at k0
 cases Y0:nv (bR l) ms a with
 |none=>rw[Y0]at k0;simp at k0
 |some p=>
 obtain⟨vs,ns⟩:=p
 rw[Y0]at k0
 obtain⟨r2,v2,l',e2,W,U1, -⟩:=k0
 have e2:r'=r2:=by have:=congrArg (λv:aed=>match v with |.tuple #[.agg #[a,_],_]=>a |_=> .nilIface) e2;exact this
 subst e2
 obtain⟨hf,hd⟩:=GO Y0
 have E0:cF (bR l'):=by rw[W];exact uC hP hd
 have F:=H0.trans r0
 refine ai (e8 (F.cells gA)) ?_
 have V1:=q0.aD (j0.trans F)
 obtain⟨v3,w3,H,X1,I0,Y1, -⟩:=ID (m:=D0) hX V1 (by omega)
 rw[aaf hf]at Y1
 refine az X1 ?_
 have z3:=I0.n
 have A3:=r0.n
 refine ai (v:=v3) rfl ?_
 refine ai (v:=w3) rfl ?_
 have bs:aK TE H 96 2 [(0,aei),(1,aeh)]=some (aec H.n 0 2 2,H.push (.cells [aei,aeh] 4 none)):=by kernel_rfl
 rw[bs,aE]
 obtain⟨q,hq⟩:∃q,q=H.push (.cells [aei,aeh] 4 none):=⟨_,rfl⟩
 have a2:Ext H q:=by rw[hq];exact Ext.refl.push
 have z4:q.n=H.n+1:=by rw[hq];rfl
 have B3:q.get H.n=.cells [aei,aeh] 4 none:=by rw[hq];exact M.bJ
 rw[<-hq]
 clear hq bs
 have a1:∀mm:M,av TE mm .len [96] [aec H.n 0 2 2]=some (.int .i64 2,mm):=λmm=>by kernel_rfl
 rw[a1,aE]
 have s0:Ext D0 q:=I0.trans a2
 have d2:=s0.cells (F.cells G0)
 have g2:=s0.cells gT
 have C3:=s0.cells (F.cells gA)
 have j2:=(B0.aD X0).aD (F.trans s0)
 have k2:=U1.aD (r0.trans s0)
 have D3:=Y1.aD a2
 have A4:(fK a).length<=2:=by
  unfold fK;repeat' split
  all_goals simp
 have d1:=(Cy hP hd).2
 refine Lp.nc (γ:=Nat) (λi=>2-i) (λi vs mm lo=>∃vx,vs=[vx,.int .i64 i]/\i<=2/\Ext q mm/\m.n<=lo) 0 ⟨_,rfl,by omega,.refl,by omega⟩ ?_
 rintro i _ mm lo ⟨vx,rfl,hi,hx,B4⟩ P E3
 rw[aH,aH,aX,ae,an]
 have C4:=hx.n
 refine aq (λo2=>?_) (λD4=>?_)
 rotate_left
 ·exact⟨rfl,by omega⟩
 have o2:i < 2:=by have:=abe o2;omega
 obtain⟨bh,F3⟩:∃bh:Bool,[Value.bool false,aeh][i]?=some (.bool bh):=by
  rcases(show i=0\/i=1 by omega)with rfl |rfl;·exact⟨false,rfl⟩
  exact⟨true,rfl⟩
 refine ai (show ak TE 96 (aec H.n 0 2 2) (.int .i64 i)=some (aeb H.n i) by rcases(show i=0\/i=1 by omega)with rfl |rfl <;>kernel_rfl) ?_
 refine ai (show ah TE mm 4 (aeb H.n i)=some (.bool bh) by rw[qq,aF (hx.cells B3),F3]) ?_
 refine ai bK ?_
 refine ai (yV (hx.cells d2)) ?_
 obtain⟨w1,u2,z2,J0,K0⟩:=FL (m:=mm) hX (j2.aD hx) hP bh
 refine az z2 ?_
 have G3:=J0.n
 refine ai (v:=qO 40 40 w1) rfl ?_
 refine ai (v:=.int .i64 0) rfl ?_
 refine au λE4 f4 A2 B2=>?_
 have H3:=K0.sl.one
 refine aC uR A2 rfl rfl (by show(true && (true && (one w1 && true)))=true;rw[H3];rfl) λe1 g4 C2 D2=>?_
 have I3:e1.get u2.n=.cells [.int .i64 40,.int .i64 40,w1] 27 none:=C2
 have L0:Ext u2 e1:=⟨by omega,λc hc=>by rw[D2 c (by omega),B2 c hc]⟩
 have g1:=J0.trans L0
 refine ai bK ?_
 refine ai (yV (g1.cells (hx.cells g2))) ?_
 obtain⟨w2,E2,F2,M0,N0⟩:=FL (m:=e1) hX ((k2.aD hx).aD g1) E0 bh
 refine az F2 ?_
 have J3:=M0.n
 refine ai (v:=qO 40 40 w2) rfl ?_
 refine ai (v:=.int .i64 0) rfl ?_
 refine au λF4 j4 G2 H2=>?_
 have K3:=N0.sl.one
 refine aC uR G2 rfl rfl (by show(true && (true && (one w2 && true)))=true;rw[K3];rfl) λj1 k4 I2 J2=>?_
 have K2:j1.get E2.n=.cells [.int .i64 40,.int .i64 40,w2] 27 none:=I2
 have O0:Ext E2 j1:=⟨by omega,λc hc=>by rw[J2 c (by omega),H2 c hc]⟩
 have k1:=M0.trans O0
 have P0:=k1.cells I3
 have s1:=(K0.sl.aD L0).aD k1
 have s2:=N0.sl.aD O0
 refine ai (yW P0) ?_
 refine ai (yW K2) ?_
 have L2:=tC hP bh
 have M2:=tC E0 bh
 obtain⟨rr,L3,N2,a0,d0⟩:=Ey (m:=j1) (w:=40) (h:=40) hX s1 s2 L2 M2
 have N3:(dh (bR l) bh).length=1600:=by unfold dh;rw[e9]
 rw[N3]at d0
 refine az N2 ?_
 have O3:=a0.n
 refine ai (v:=rr) rfl ?_
 refine ai (v:=.int .i64 0) rfl ?_
 have g0:=(g1.trans k1).trans a0
 have P3:=nj (w:=40) (l:=dh (bR l) bh) (l':=dh (bR l') bh) 1600
 obtain⟨CL,o1⟩:∃CL,CL=eH 40 (dh (bR l) bh) (dh (bR l') bh) 1600:=⟨_,rfl⟩
 rw[<-o1]at d0 P3
 refine cG (λvs m' lo=>vs=[aei]/\m'=L3/\m.n<=lo) (λR hR=>?_) ?_
 ·rw[da,ae,an,show(!(decide ((0:Int)=0)))=false from rfl,aM,ae,an,aM,ae,an,aM];rw[d0.sl.len dS,aE,dq,ae,an];refine aq (λhp=>?_) (λ_=>hR _ _ _ ⟨rfl,rfl,by omega⟩);have hp:=abe hp
  have u0:¬(a.kind=5\/a.kind=6\/a.kind=7):=λu0=>by have:=d1 u0;rw[o1,W,this]at hp;have O2:eH 40 (dh (bR l) bh) (dh (bR l) bh) 1600=[]:=(rU 1600).2 λ_ _=>rfl;rw[O2]at hp;simp at hp
  have v0:=g0.cells (hx.cells C3);refine ai fb (ai (eX v0).1 ?_);rw[aY,ae,an,aat (λe=>u0 (.inl e)),aM];refine ai fb (ai (eX v0).1 ?_);rw[aY,ae,an,aat (λe=>u0 (.inr (.inl e))),aM];refine ai fb (ai (eX v0).1 ?_);rw[aY,ae,aat (λe=>u0 (.inr (.inr e)))];exact hR _ _ _ ⟨rfl,rfl,by omega⟩
 rintro _ Q3 nz ⟨rfl,rfl,Q2⟩
 rw[aH,an,aM]
 have S3:=s1.aD a0
 have T3:=s2.aD a0
 have S2:=a0.cells P0
 have T2:=a0.cells K2
 have U2:=(j2.aD hx).aD g0
 have V2:=(k2.aD hx).aD g0
 have F0:=(D3.aD hx).aD g0
 have X2:=g0.cells (hx.cells d2)
 have Y2:=g0.cells (hx.cells g2)
 refine Lp.nc (γ:=Nat) (λk=>CL.length-k) (λk vs mz lo=>∃vy,vs=[vy,.int .i64 k]/\k<=CL.length/\mz=Q3/\m.n<=lo) 0 ⟨_,rfl,aaQ _,rfl,Q2⟩ ?_
 rintro k _ mz G4 ⟨vy,rfl,H4,rfl,a3⟩ P2 b3
 rw[aH,aH,d0.sl.len dS,aE,aX,ae,an]
 refine aq (λe0=>?_) (λl4=>?_)
 rotate_left
 ·rw[aQ,ae,wrap64 (by omega) (by omega)];exact E3 (i+1) _ _ _ (by omega) ⟨_,by push_cast;rfl,by omega,hx.trans g0,a3⟩
 have e0:k < CL.length:=by have:=abe e0;omega
 obtain⟨p,hp⟩:∃p,CL[k]?=some p:=⟨_,Φ e0⟩
 have c3:=aac hp
 rw[o1]at c3
 obtain⟨c,hc,z0,rfl⟩:=tF c3
 rw[rS hc,rS hc]at z0
 have z0:gP (bR l) bh ((c%40:Nat):Int) ((c/40:Nat):Int)≠gP vs bh ((c%40:Nat):Int) ((c/40:Nat):Int):=λe=>z0 (by rw[W,e])
 obtain⟨pb,po,p1,p2,p3⟩:=UH (d0.sl) hp
 dsimp only at p2 p3
 have c1:c%40 < 40:=ab7 _ (by decide)
 have c2:c/40 < 40:=by omega
 have l0:=Dg hP hd z0
 refine ai p1 ?_
 refine ai cf ?_
 refine ai p2 ?_
 have d3:∀{mq:M},mq=mz->C X (.func 44) [qO 40 40 w1,.int .i64 ((c%40:Nat):Int),.int .i64 ((c/40:Nat):Int)] mq mq.n (.int .i64 (gP (bR l) bh ((c%40:Nat):Int) ((c/40:Nat):Int))) mq:=λe=>by subst e;exact Bd hX S3 L2 ⟨by omega,by omega⟩ ⟨by omega,by omega⟩ (i:=c) (by omega) (rS hc)
 have e3:∀{mq:M},mq=mz->C X (.func 44) [qO 40 40 w2,.int .i64 ((c%40:Nat):Int),.int .i64 ((c/40:Nat):Int)] mq mq.n (.int .i64 (gP (bR l') bh ((c%40:Nat):Int) ((c/40:Nat):Int))) mq:=λe=>by subst e;exact Bd hX T3 M2 ⟨by omega,by omega⟩ ⟨by omega,by omega⟩ (i:=c) (by omega) (rS hc)
 have Q0:¬(gP (bR l) bh ((c%40:Nat):Int) ((c/40:Nat):Int)=gP (bR l') bh ((c%40:Nat):Int) ((c/40:Nat):Int)):=by rw[W];exact z0
 rw[an]
 refine aq (λhb=>?_) (λhb=>?_)
 ·subst hb;rw[fB,ae,wrap64 (by omega) (by omega)];have l0:eh (bR l) (fK a) (39-((c%40:Nat):Int)) ((c/40:Nat):Int)=true\/eh (bR l') (fK a) (39-((c%40:Nat):Int)) ((c/40:Nat):Int)=true:=by rw[W];exact l0
  refine cG (λvs m' lo=>vs=[aei]/\m'=mz/\m.n<=lo) (λR hR=>?_) ?_
  ·refine ai (yW S2) (ai p1 ?_);refine ai cf (ai p2 ?_);refine ai p1 (ai ck ?_);refine ai p3 ?_;refine az (d3 rfl) ?_;refine⟨Ξ _,?_⟩;refine ai (yW T2) (ai p1 ?_);refine ai cf (ai p2 ?_);refine ai p1 (ai ck ?_);refine ai p3 ?_;refine az (e3 rfl) ?_;rw[aY,ae,an,aat Q0,aM];refine ai bK (ai (yV X2) ?_);refine ai p1 (ai ck ?_);refine ai p3 ?_;refine az (ry hX U2 hP F0 (by omega) _ _) ?_;rw[bM,ae,an];refine aq (λh1=>?_) (λh1=>hR _ _ _ ⟨rfl,rfl,by omega⟩);rw[aba]at h1;refine ai bK (ai (yV Y2) ?_);refine ai p1 (ai ck ?_);refine ai p3 ?_;refine az (ry hX V2 E0 F0 (by omega) _ _) ?_;rw[bM,ae];have h2:=l0.resolve_left (by rw[h1];decide)
   exact hR _ _ _ ⟨by rw[h2];rfl,rfl,by omega⟩
  rintro _ m' U3 ⟨rfl,rfl,A0⟩;rw[aH,an,aM,aQ,ae,wrap64 (by omega) (by omega)];exact b3 (k+1) _ _ _ (by omega) ⟨_,by push_cast;rfl,e0,rfl,A0⟩
 ·subst hb;have l0:eh (bR l) (fK a) ((c%40:Nat):Int) ((c/40:Nat):Int)=true\/eh (bR l') (fK a) ((c%40:Nat):Int) ((c/40:Nat):Int)=true:=by rw[W];exact l0
  refine cG (λvs m' lo=>vs=[aei]/\m'=mz/\m.n<=lo) (λR hR=>?_) ?_
  ·refine ai (yW S2) (ai p1 ?_);refine ai cf (ai p2 ?_);refine ai p1 (ai ck ?_);refine ai p3 ?_;refine az (d3 rfl) ?_;refine⟨Ξ _,?_⟩;refine ai (yW T2) (ai p1 ?_);refine ai cf (ai p2 ?_);refine ai p1 (ai ck ?_);refine ai p3 ?_;refine az (e3 rfl) ?_;rw[aY,ae,an,aat Q0,aM];refine ai bK (ai (yV X2) ?_);refine ai p1 (ai ck ?_);refine ai p3 ?_;refine az (ry hX U2 hP F0 (by omega) _ _) ?_;rw[bM,ae,an];refine aq (λh1=>?_) (λh1=>hR _ _ _ ⟨rfl,rfl,by omega⟩);rw[aba]at h1;refine ai bK (ai (yV Y2) ?_);refine ai p1 (ai ck ?_);refine ai p3 ?_;refine az (ry hX V2 E0 F0 (by omega) _ _) ?_;rw[bM,ae];have h2:=l0.resolve_left (by rw[h1];decide)
   exact hR _ _ _ ⟨by rw[h2];rfl,rfl,by omega⟩
  rintro _ m' U3 ⟨rfl,rfl,A0⟩;rw[aH,an,aM,aQ,ae,wrap64 (by omega) (by omega)];exact b3 (k+1) _ _ _ (by omega) ⟨_,by push_cast;rfl,e0,rfl,A0⟩
end
end Go.Proofs.YtmdfgncoekfgdaaGreatDoor
namespace Go.Proofs
open Go.D Go.Shelf Go.RowKit Go.Lib
theorem nq(z:Array aed)(n:Nat):Builtin.zeroCells z n=(dB z.toList n).toArray:=lE z n
set_option maxHeartbeats 4000000 in
theorem Tryz.DZ(n:Nat)(w:World)(H:0 < n)(hn:n < 1000000):
  Calls Tryz.prog 365 #[aeg,.int .i64 n] w λe w'=>e=.returned (.slice (some ⟨w.heap.size,0,none⟩) 0 (grownCap w n 0 98))/\
   w'=w.drew.alloc (.cells (Builtin.zeroCells (.agg #[.int .i64 0,.int .i64 0]:aed).cells n++Builtin.zeroCells (.agg #[.int .i64 0,.int .i64 0]:aed).cells (grownCap w n 0 98-n)) 98):=by
 have hu:Tryz.prog.underlying 45=some (.slice 98):=by kernel_rfl
 obtain⟨ei,W,a0,g0,b0⟩:=info_parts (P:=Tryz.prog) (e:=98) (z:=.agg #[.int .i64 0,.int .i64 0]) (size:=2) (bytes:=16) (by kernel_rfl)
 have mixed:Tryz.prog.follows .mixedOrders=true:=by kernel_rfl
 have h1:¬((n:Int)< 0):=by omega
 have h2:wrap64 ((0:Int)-(0:Int))=0:=by unfold RowKit.wrap64;omega
 have h3:wrap64 ((n:Int)-(0:Int))=(n:Int):=by unfold RowKit.wrap64;omega
 have h4:(n:Int) >0:=by omega
 have u0:=aak hu
 have d0:n<=grownCap w n 0 98:=grownCap_ge w _ _ _
 have F:∀ty,(Builtin.append_ #[45,3] ty #[aeg,.int .i64 (n:Int)]).run Tryz.prog w=
   .ok (.slice (some ⟨w.heap.size,0,none⟩) n (grownCap w n 0 98)) (w.drew.alloc (.cells (Builtin.zeroCells (.agg #[.int .i64 0,.int .i64 0]:aed).cells n++Builtin.zeroCells (.agg #[.int .i64 0,.int .i64 0]:aed).cells (grownCap w n 0 98-n)) 98)):=λty=>
  Lib.run_append_nil_zeros w 45 3 ty 98 ei (.agg #[.int .i64 0,.int .i64 0]) .i64 .i64 hu (by kernel_rfl) W a0 n H (by omega) (by omega) (by rw[b0];omega)
 obtain⟨G,hG⟩:∃G,G=grownCap w n 0 98:=⟨_,rfl⟩
 rw[<-hG]at F d0⊢
 have e0:G<=9223372036854775807:=by have:=grownCap_le_maxLen w n 0 98 (by unfold maxLen;omega);rw[<-hG]at this;unfold maxLen at this;omega
 go_enter Tryz.func365,Tryz.ntmps365
 go_wp2_with (at_builtin;refine Lib.wpList_append_run _ rfl _ _ _ _ rfl _ _ rfl rfl _ _ (F _) ?_)
 go_ret
 exact⟨rfl,rfl⟩
theorem Tryz.OO:Qj Tryz.prog ⟨365,[.int .i64 0,.int .i64 0],98⟩ where
 FK:=enters_of Tryz.func365 (by kernel_rfl) rfl
 pos:=by show 0 < 2;decide
 flat:=λx F=>by
  have F:x∈ [(.int .i64 0:aed),.int .i64 0]:=F
  simp only[aaS,acp,or_false,or_self]at F
  subst F;rfl
 go:=λn w H W=>by
  refine(Tryz.DZ n w H W).mono ?_
  rintro e w' ⟨rfl,rfl⟩
  refine⟨⟨rfl,rfl,rfl⟩,grownCap w n 0 98,dB [.int .i64 0,.int .i64 0] (grownCap w n 0 98-n),grownCap_ge w _ _ _,fw _ _,rfl,?_⟩
  rw[nq,nq]
  show w.heap.push _=w.heap.push _
  congr 2
  apply abl
  simp
  rfl
end Go.Proofs
namespace Go.D
open Go
section
section
variable {E:Env} {call:aG} {n:Nat}
def flat:Code->List Code
 |.seq a b=>flat a++flat b
 |c=> [c]
def fX(f:Code->Fr->Option (Ex×Fr)):List Code->Fr->Option (Ex×Fr)
 |[],fr=>some (.normal,fr)
 |c::r,fr=>match f c fr with
  |some (.normal,fr)=>fX f r fr
  |r=>r
theorem px(f:Code->Fr->Option (Ex×Fr)):∀(a b:List Code) (fr:Fr),fX f (a++b) fr=match fX f a fr with |some (.normal,fr)=>fX f b fr |r=>r
 |[],b,fr=>rfl
 |c::a,b,fr=>by
  show(match f c fr with |some (.normal,fr)=>fX f (a++b) fr |r=>r)=match(match f c fr with |some (.normal,fr)=>fX f a fr |r=>r)with |some (.normal,fr)=>fX f b fr |r=>r
  cases h:f c fr with
  |none=>rfl
  |some p=>
   obtain⟨e,F⟩:=p
   cases e with
   |normal=>exact px f a b F
   |exit id=>rfl
   |ret=>rfl
theorem mC:∀(c:Code) (fr:Fr),bz E call n c fr=fX (bz E call n) (flat c) fr
 |.seq a b,fr=>by
  rw[flat,px,<-mC a fr]
  show(match bz E call n a fr with |some (.normal,fr)=>bz E call n b fr |r=>r)=_
  cases h:bz E call n a fr with
  |none=>rfl
  |some p=>
   obtain⟨e,F⟩:=p
   cases e with
   |normal=>exact mC b F
   |exit id=>rfl
   |ret=>rfl
 |.skip,fr=>fF _ fr
 |.region _ _ _,fr=>fF _ fr
 |.cond _ _ _,fr=>fF _ fr
 |.block _ _,fr=>fF _ fr
 |.loop _,fr=>fF _ fr
 |.exit _,fr=>fF _ fr
 |.ret,fr=>fF _ fr
 |.label _,fr=>fF _ fr
 |.goto _,fr=>fF _ fr
 |.rangeFunc _ _ _ _,fr=>fF _ fr
 |.scope _,fr=>fF _ fr
 |.refuse _,fr=>fF _ fr
where
 fF (c:Code) (fr:Fr):bz E call n c fr=fX (bz E call n) [c] fr:=by
  unfold fX
  cases h:bz E call n c fr with
  |none=>rfl
  |some p=>
   obtain⟨e,F⟩:=p
   cases e <;>rfl
theorem pw{f:Code->Fr->Option (Ex×Fr)}{l:List Code}{fr F:Fr}(a k:Nat)(h:fX f ((l.drop a).take k) fr=some (.normal,F)):fX f (l.drop a) fr=fX f (l.drop (a+k)) F:=by
 have e:l.drop a=(l.drop a).take k++l.drop (a+k):=by rw[<-abp,abV]
 rw[e,px,h]
theorem Ar{X:aG}{f:FuncId}{fn:Func}{c:Code}{args:aee}{m:M}{fr:Fr}{v:aed}(F:X (.func f) args m=none)(H:E.fn.get f=some fn)(W:fn.body=some c)(hle:Nat.ble args.length fn.ntmps=true)
  (he:bz E (bO E X n) n c {T:=enter args 0,m:={m with low:=m.n}}=some (.ret,fr)) (hr:result? E fn fr.T fr.m=some v) (hv:bP v=true) (hl:Nat.ble m.n fr.m.low=true):bO E X (n+1) (.func f) args m=some (v,m):=by unfold bO;rw[F,H];dsimp only;rw[W];dsimp only;rw[hle,cond_true,he];dsimp only;rw[hr];dsimp only;rw[hv,hl];rfl
end
end
section
section
variable {P:Program}
def CU(X Y:aG):aG:=λf args m=>match X f args m with |some r=>some r |none=>Y f args m
theorem oR{X Y:aG}{f:Fn}{args:aee}{m:M}{r:aed×M}(h:CU X Y f args m=some r):X f args m=some r\/Y f args m=some r:=by
 unfold CU at h
 cases F:X f args m with
 |none=>rw[F]at h;exact .inr h
 |some H=>rw[F]at h;exact .inl h
theorem vK{X Y:aG}(F:cQ P X)(H:cQ P Y):cQ P (CU X Y):=
 ⟨λf args m v m' h=>(oR h).elim (F.func f args m v m') (H.func f args m v m'),
  λl args m v m' h=>(oR h).elim (F.yield l args m v m') (H.yield l args m v m'),
  λf args m v m' h=>(oR h).elim (F.bH f args m v m') (H.bH f args m v m'),
  λa m v m' b h=>(oR h).elim (F.IJ a m v m' b) (H.IJ a m v m' b)⟩
theorem nU{X Y:aG}{f:Fn}{args:aee}{m:M}(F:X f args m=none)(H:Y f args m=none):CU X Y f args m=none:=by unfold CU;rw[F];exact H
end
section
variable {E:Env} {call:aG}
theorem wI{ops:Array Oper}:∀(a b:List Oper) (j:Nat) (fr:Fr),fO E call ops (a++b) j fr=match fO E call ops a j fr with |some fr=>fO E call ops b (j+a.length) fr |none=>none
 |[],b,j,fr=>rfl
 |o::a,b,j,fr=>by
  have F:j+(o::a).length=(j+1)+a.length:=by simp only[aaJ];omega
  rw[acC,fA,fA,F]
  cases bV ops fr.T o with
  |false=>simp only[cond_false];exact wI a b _ _
  |true=>
   simp only[cond_true]
   cases dt o.op E call fr.T {fr.m with low:=fr.m.n}with
   |none=>rfl
   |some r=>
    dsimp only
    cases (Nat.ble fr.m.n r.2.low ||(eL ops j ||vu ops j fr.m fr.T o.op))with
    |false=>rfl
    |true=>simp only[cond_true];exact wI a b _ _
theorem MJ{ops:Array Oper}{l:List Oper}{fr F:Fr}(a k j:Nat)(H:((l.drop a).take k).length=k)(h:fO E call ops ((l.drop a).take k) j fr=some F):fO E call ops (l.drop a) j fr=fO E call ops (l.drop (a+k)) (j+k) F:=by
 have e:l.drop a=(l.drop a).take k++l.drop (a+k):=by rw[<-abp,abV]
 rw[e,wI,h,H]
end
end
end Go.D
namespace Go.Proofs.YtmdfgncoekfgdaaGreatDoor
open Go Go.D
section
variable {m:M}
def rn:Nat->aee->Option (List Pl)
 |0,_=>some []
 |n+1,.int .i64 x::.int .i64 y::r=>match rn n r with |some l=>some (⟨x,y⟩::l) |none=>none
 |_+1,_=>none
def yM(m:M)(v:aed):Option (List Pl):=
 match v with
 |.slice none 0 0=>some []
 |.slice (some a) n _=>match a.spot,m.get a.block with
  |none,.cells cs e _=>bif Nat.beq e 98 && Nat.ble (a.off+n*2) cs.length then rn n (cs.drop a.off)else none
  |_,_=>none
 |_=>none
theorem vF:∀{n:Nat} {cs:aee} {l:List Pl},rn n cs=some l->l.length=n/\∀i p,l[i]?=some p->(cs.drop (i*2)).take 2=p.c
 |0,_,l,h=>by cases h;exact⟨rfl,λi p hi=>by cases hi⟩
 |n+1,cs,l,h=>by
  unfold rn at h
  split at h
  ·omega
  ·rename_i n' x y r H
   cases H
   cases F:rn n r with
   |none=>rw[F]at h;cases h
   |some l'=>
    rw[F]at h
    cases h
    obtain⟨W,h2⟩:=vF F
    refine⟨by simp[W],λi p hi=>?_⟩
    match i with
    |0=>cases hi;rfl
    |i+1=>
     have:=h2 i p (by simpa using hi)
     rw[show(i+1)*2=i*2+1+1 by omega,aaT,aaT]
     exact this
  ·cases h
theorem vw{v:aed}{l:List Pl}(h:yM m v=some l):Sl m l v:=by
 unfold yM at h;split at h;·cases h;exact .inl ⟨rfl,rfl⟩
 ·rename_i a n c;split at h
  ·rename_i cs e g F hg
   cases H:(Nat.beq e 98 && Nat.ble (a.off+n*2) cs.length)with
   |false=>rw[H]at h;cases h
   |true=>rw[H,cond_true]at h;rw[Ψ]at H;obtain rfl:=aab H.1;have hle:=aar H.2;obtain⟨W,h2⟩:=vF h;obtain⟨ab,ao,sp⟩:=a;have F:sp=none:=F;subst F;refine .inr ⟨ab,ao,c,cs,g,by rw[W],hg,by rw[W];exact hle,λi p hi=>?_⟩;have:=h2 i p hi;rw[abp]at this;exact this
  cases h
 cases h
def rm(m:M):Nat->aee->Option (List Un)
 |0,_=>some []
 |n+1,.int .i64 a::.int .i64 b::.int .i64 c::w::.int .i64 d::.int .i64 e::r=>match yM m w,rm m n r with |some s,some l=>some (⟨a,b,c,s,d,e⟩::l) |_,_=>none
 |_+1,_=>none
def Ja(m:M)(v:aed):Option (List Un):=
 match v with
 |.slice none 0 0=>some []
 |.slice (some a) n _=>match a.spot,m.get a.block with
  |none,.cells cs e _=>bif Nat.beq e 87 && Nat.ble (a.off+n*6) cs.length then rm m n (cs.drop a.off)else none
  |_,_=>none
 |_=>none
theorem vE:∀{n:Nat} {cs:aee} {l:List Un},rm m n cs=some l->l.length=n/\∀i u,l[i]?=some u->∃w,(cs.drop (i*6)).take 6=u.c w/\Sl m u.shape w
 |0,_,l,h=>by cases h;exact⟨rfl,λi p hi=>by cases hi⟩
 |n+1,cs,l,h=>by
  unfold rm at h
  split at h
  ·omega
  ·rename_i n' a b c w d e r W
   cases W
   cases F:yM m w with
   |none=>rw[F]at h;cases h
   |some s=>
    cases H:rm m n r with
    |none=>rw[F,H]at h;cases h
    |some l'=>
     rw[F,H]at h
     cases h
     obtain⟨h1,h2⟩:=vE H
     refine⟨by simp[h1],λi p hi=>?_⟩
     match i with
     |0=>cases hi;exact⟨w,rfl,vw F⟩
     |i+1=>
      have:=h2 i p (by simpa using hi)
      rw[show(i+1)*6=i*6+1+1+1+1+1+1 by omega,aaT,aaT,aaT,aaT,aaT,aaT]
      exact this
  ·cases h
theorem IZ{v:aed}{l:List Un}(h:Ja m v=some l):Sl m l v:=by
 unfold Ja at h;split at h;·cases h;exact .inl ⟨rfl,rfl⟩
 ·rename_i a n c;split at h
  ·rename_i cs e g F hg
   cases H:(Nat.beq e 87 && Nat.ble (a.off+n*6) cs.length)with
   |false=>rw[H]at h;cases h
   |true=>rw[H,cond_true]at h;rw[Ψ]at H;obtain rfl:=aab H.1;have hle:=aar H.2;obtain⟨W,h2⟩:=vE h;obtain⟨ab,ao,sp⟩:=a;have F:sp=none:=F;subst F;refine .inr ⟨ab,ao,c,cs,g,by rw[W],hg,by rw[W];exact hle,λi u hi=>?_⟩;obtain⟨w,hw,hs⟩:=h2 i u hi;rw[abp]at hw;exact⟨w,hw,hs⟩
  cases h
 cases h
def sI:aG:=λfn args m=>
 match fn with
 |.func f=>
  bif Nat.beq f 157 then
   match args with
   |[v]=>match yM m v with |some l=>bif Nat.ble l.length 1000 then some (.bool (bI l),m)else none |none=>none
   |_=>none
  else bif Nat.beq f 119 then
   match args with
   |[v,.int .i64 x,.int .i64 y]=>match yM m v with |some l=>bif Nat.ble l.length 1000 then some (.int .i64 (ka l x y),m)else none |none=>none
   |_=>none
  else bif Nat.beq f 60 then
   match args with
   |[.agg a,.bool b]=>match a.toList with
    |[v]=>match Ja m v with
     |some us=>bif Nat.ble us.length 1000 && us.all (λu=>bI u.shape)then some (qO 40 40 (.slice (some ⟨m.n,0,none⟩) 1600 1600),m.push (.cells ((dh us b).map (.int .i64)) 3 (some 1)))else none
     |none=>none
    |_=>none
   |_=>none
  else none
 |_=>none
theorem DN:cV Ue:=⟨λ_ _ _ _=>rfl⟩
theorem wj:∀{l:List Int} {cs:aee},cs.length=l.length*1->(∀i x,l[i]?=some x->chunk cs 1 i=[.int .i64 x])->cs=l.map (.int .i64)
 |[],cs,h,_=>acF.1 (by simpa using h)
 |x::l,a::cs,h,H=>by
  have F:=H 0 x rfl
  simp only[chunk,ab0,aa0,aa6,abi]at F
  injection F with F
  rw[F,abT,<-wj (l:=l) (cs:=cs) (by simp at h;omega) (λi y hi=>by
   have:=H (i+1) y (by simpa using hi)
   simp only[chunk,Nat.mul_one,aaT]at this⊢
   exact this)]
 |x::l,[],h,_=>by simp at h
theorem zf{us:List Un}{b:Bool}:(dh us b).length=1600:=by unfold dh;rw[e9]
theorem Cw{σ:Sg}{m1:M}{w w':World}{v1:aed}{l:List Int}(hs:dY Tryz.prog σ m w)(ho:Ow m.n m1 l v1)(hl:0 < l.length){e:Ending}(h:db Tryz.prog σ (m.wl m.n) w (qO 40 40 v1) (m1.wl m.n) e w'):
  db Tryz.prog σ m w (qO 40 40 (aec m.n 0 l.length l.length)) (m.push (.cells (l.map (.int .i64)) 3 (some 1))) e w':=by
 obtain⟨v',i0,rfl,hv,he⟩:=h
 rcases ho with⟨_,rfl⟩ |⟨b,cs,rfl,_,hb,hg,a0,b0⟩
 ·simp at hl
 have d0:cs=l.map (.int .i64):=wj a0 b0
 subst d0
 cases hv with
 |flat _ h=>cases h
 |agg a F ha h1=>
  obtain⟨W,e0,g0⟩:∃W,aS W (aec m.n 0 l.length l.length) ((F.toList[2]?).getD undef)/\Ev Tryz.prog σ m w W (m.push (.cells (l.map (.int .i64)) 3 (some 1))) w':=by
   have h0:2 < F.size:=by rw[<-ha];exact acU _
   have e2:F[2]?=some F[2]:=ab5 h0;have:=h1 2 _ _ rfl e2;have e3:(F.toList[2]?).getD undef=F[2]:=by rw[aaY,e2];rfl
   rw[e3];exact Ev.row hs he hb hg (λu hu=>by obtain⟨z,_,rfl⟩:=aaU.1 hu;rfl) this hl
  refine⟨.agg F,W,rfl,.agg _ _ ha λj u u' hu H=>?_,g0⟩
  match j with
  |0=>have:=(h1 0 _ _ rfl H).aU rfl;cases hu;rw[this];exact .flat _ rfl
  |1=>have:=(h1 1 _ _ rfl H).aU rfl;cases hu;rw[this];exact .flat _ rfl
  |2=>
   cases hu;have e3:(F.toList[2]?).getD undef=u':=by rw[aaY,H];rfl
   rw[<-e3];exact e0
  |j+3=>simp at hu
theorem Hh:cQ Tryz.prog sI:=by
 refine⟨λf args m v m' F σ w d0 hs hl=>?_,λl args m v m' F=>by simp[sI]at F,λf args m v m' F=>?_,λa m v m' b F=>by have e:sI (.func tP) [.pointer (some a)] m=none:=rfl;rw[e]at F;cases F⟩
 ·unfold sI at F
  dsimp only at F
  cases h1:Nat.beq f 157 with
  |true=>
   obtain rfl:=aab h1;rw[h1,cond_true]at F;split at F
   ·rename_i v0;split at F
    ·rename_i l W
     cases hlen:Nat.ble l.length 1000 with
     |false=>rw[hlen]at F;cases F
     |true=>rw[hlen,cond_true]at F;cases F;have hle:=aar hlen;have H:=Cl.calls ag.ok DM (iJ DN (vw W) (by omega)) hs hl;exact⟨H.1.mono λe w' h=>h.flat hs rfl,H.2⟩
    cases F
   cases F
  |false=>
   rw[h1,cond_false]at F
   cases h2:Nat.beq f 119 with
   |true=>
    obtain rfl:=aab h2;rw[h2,cond_true]at F;split at F
    ·rename_i v0 x y;split at F
     ·rename_i l W
      cases hlen:Nat.ble l.length 1000 with
      |false=>rw[hlen]at F;cases F
      |true=>rw[hlen,cond_true]at F;cases F;have hle:=aar hlen;have H:=Cl.calls ag.ok DM (Ap DN (vw W) (by omega) x y) hs hl;exact⟨H.1.mono λe w' h=>h.flat hs rfl,H.2⟩
     cases F
    cases F
   |false=>
    rw[h2,cond_false]at F
    cases h3:Nat.beq f 60 with
    |false=>rw[h3]at F;cases F
    |true=>
     obtain rfl:=aab h3;rw[h3,cond_true]at F;split at F
     ·rename_i a b;split at F
      ·rename_i v0 ha;split at F
       ·rename_i us W
        cases H:(Nat.ble us.length 1000 && us.all (λu=>bI u.shape))with
        |false=>rw[H]at F;cases F
        |true=>
         rw[H,cond_true]at F;rw[Ψ]at H;have hle:=aar H.1
         have a0:∀u∈us,bI u.shape=true:=λu hu=>by have:=aay.1 H.2 u hu;exact this
         cases F;obtain⟨al⟩:=a;have ha:al=[v0]:=ha;subst ha;obtain⟨v1,m1,e0,g0,ho⟩:=rR (behind:=b) DN (IZ W) a0 hle;have b0:=Cl.calls ag.ok DM e0 hs hl;refine⟨b0.1.mono λe w' h=>?_,b0.2⟩;have:=Cw hs ho (by rw[zf];decide) h;rw[zf]at this;exact this
       cases F
      cases F
     cases F
 ·unfold sI at F
  cases f with
  |func f=>
   dsimp only at F
   cases h1:Nat.beq f 157 with
   |true=>
    rw[h1,cond_true]at F;split at F
    ·split at F
     ·rename_i l W
      cases hlen:Nat.ble l.length 1000 with
      |false=>rw[hlen]at F;cases F
      |true=>rw[hlen,cond_true]at F;cases F;exact LK.refl
     cases F
    cases F
   |false=>
    rw[h1,cond_false]at F
    cases h2:Nat.beq f 119 with
    |true=>
     rw[h2,cond_true]at F;split at F
     ·split at F
      ·rename_i l W
       cases hlen:Nat.ble l.length 1000 with
       |false=>rw[hlen]at F;cases F
       |true=>rw[hlen,cond_true]at F;cases F;exact LK.refl
      cases F
     cases F
    |false=>
     rw[h2,cond_false]at F
     cases h3:Nat.beq f 60 with
     |false=>rw[h3]at F;cases F
     |true=>
      rw[h3,cond_true]at F;split at F
      ·split at F
       ·split at F
        ·rename_i us W
         cases H:(Nat.ble us.length 1000 && us.all (λu=>bI u.shape))with
         |false=>rw[H]at F;cases F
         |true=>rw[H,cond_true]at F;cases F;exact LK.push
        cases F
       cases F
      cases F
  |_=>cases F
end
end Go.Proofs.YtmdfgncoekfgdaaGreatDoor
namespace Go.Proofs
open Go.Shelf
def Tryz.iB:Go.Shelf.Ren:=⟨λ|169=>77 |n=>n,λ|70=>140 |9=>9 |0=>0 |72=>142 |37=>52 |127=>203 |3=>3 |5=>5 |n=>n,λ|n=>n⟩
theorem Tryz.uv:Go.Proofs.Lays.n169 Tryz.prog Tryz.iB:={
 mixed:=by kernel_rfl
 f169:=Tryz.func77.trans (congrArg some (by kernel_rfl))
 t0:=Tryz.underlying0
 a0:=Tryz.isAgg0
 z0:=Tryz.sizeOf0
 v0:=Tryz.zeroValue0
 t3:=Tryz.underlying3
 a3:=Tryz.isAgg3
 z3:=Tryz.sizeOf3
 v3:=Tryz.zeroValue3
 t9:=Tryz.underlying9
 a9:=Tryz.isAgg9
 z9:=Tryz.sizeOf9
 v9:=Tryz.zeroValue9
 t37:=Tryz.underlying52
 a37:=Tryz.isAgg52
 z37:=Tryz.sizeOf52
 v37:=Tryz.zeroValue52
 t70:=Tryz.underlying140
 a70:=Tryz.isAgg140
 z70:=Tryz.sizeOf140
 v70:=Tryz.zeroValue140
 t72:=Tryz.underlying142
 a72:=Tryz.isAgg142
 z72:=Tryz.sizeOf142
 v72:=Tryz.zeroValue142
 t127:=Tryz.underlying203
 a127:=Tryz.isAgg203
 z127:=Tryz.sizeOf203
 v127:=Tryz.zeroValue203}
theorem Tryz.fP:Builder.Extra Tryz.prog Tryz.iB:={
 sizeBuilder:=by kernel_rfl
 liesBuilder:=by kernel_rfl
 t5:=Tryz.underlying5
 a5:=Tryz.isAgg5
 z5:=Tryz.sizeOf5
 v5:=Tryz.zeroValue5
 infoByte:=by kernel_rfl
 cellsByte:=by kernel_rfl
 sizeByte:=by kernel_rfl
 neB5:=by decide}
def Tryz.lL:Go.Shelf.Ren:=⟨λ|156=>79 |165=>142 |166=>75 |169=>77 |240=>141 |241=>194 |276=>193 |277=>290 |n=>n,λ|31=>42 |9=>9 |3=>3 |4=>4 |0=>0 |20=>20 |72=>142 |76=>145 |70=>140 |37=>52 |75=>144 |127=>203 |164=>268 |5=>5 |80=>148 |n=>n,λ|n=>n⟩
theorem Tryz.uw:Go.Proofs.Lays.n156 Tryz.prog Tryz.lL:={
 mixed:=by kernel_rfl
 f156:=Tryz.func79.trans (congrArg some (by kernel_rfl))
 f165:=Tryz.func142.trans (congrArg some (by kernel_rfl))
 f166:=Tryz.func75.trans (congrArg some (by kernel_rfl))
 f169:=Tryz.func77.trans (congrArg some (by kernel_rfl))
 f240:=Tryz.func141.trans (congrArg some (by kernel_rfl))
 f241:=Tryz.func194.trans (congrArg some (by kernel_rfl))
 f276:=Tryz.func193.trans (congrArg some (by kernel_rfl))
 f277:=Tryz.func290.trans (congrArg some (by kernel_rfl))
 t0:=Tryz.underlying0
 a0:=Tryz.isAgg0
 z0:=Tryz.sizeOf0
 v0:=Tryz.zeroValue0
 t3:=Tryz.underlying3
 a3:=Tryz.isAgg3
 z3:=Tryz.sizeOf3
 v3:=Tryz.zeroValue3
 t4:=Tryz.underlying4
 a4:=Tryz.isAgg4
 z4:=Tryz.sizeOf4
 v4:=Tryz.zeroValue4
 t9:=Tryz.underlying9
 a9:=Tryz.isAgg9
 z9:=Tryz.sizeOf9
 v9:=Tryz.zeroValue9
 t20:=Tryz.underlying20
 a20:=Tryz.isAgg20
 z20:=Tryz.sizeOf20
 v20:=Tryz.zeroValue20
 t31:=Tryz.underlying42
 a31:=Tryz.isAgg42
 z31:=Tryz.sizeOf42
 v31:=Tryz.zeroValue42
 t37:=Tryz.underlying52
 a37:=Tryz.isAgg52
 z37:=Tryz.sizeOf52
 v37:=Tryz.zeroValue52
 t70:=Tryz.underlying140
 a70:=Tryz.isAgg140
 z70:=Tryz.sizeOf140
 v70:=Tryz.zeroValue140
 t72:=Tryz.underlying142
 a72:=Tryz.isAgg142
 z72:=Tryz.sizeOf142
 v72:=Tryz.zeroValue142
 t75:=Tryz.underlying144
 a75:=Tryz.isAgg144
 z75:=Tryz.sizeOf144
 v75:=Tryz.zeroValue144
 t76:=Tryz.underlying145
 a76:=Tryz.isAgg145
 z76:=Tryz.sizeOf145
 v76:=Tryz.zeroValue145
 t127:=Tryz.underlying203
 a127:=Tryz.isAgg203
 z127:=Tryz.sizeOf203
 v127:=Tryz.zeroValue203
 t164:=Tryz.underlying268
 a164:=Tryz.isAgg268
 z164:=Tryz.sizeOf268
 v164:=Tryz.zeroValue268}
theorem Tryz.fQ:Builder.Extra Tryz.prog Tryz.lL:={
 sizeBuilder:=by kernel_rfl
 liesBuilder:=by kernel_rfl
 t5:=Tryz.underlying5
 a5:=Tryz.isAgg5
 z5:=Tryz.sizeOf5
 v5:=Tryz.zeroValue5
 infoByte:=by kernel_rfl
 cellsByte:=by kernel_rfl
 sizeByte:=by kernel_rfl
 neB5:=by decide}
def Tryz.BU:Go.Shelf.Ren:=⟨λ|143=>197 |219=>294 |217=>341 |225=>342 |224=>343 |267=>344 |266=>373 |314=>374 |n=>n,λ|9=>9 |3=>3 |4=>4 |5=>5 |46=>224 |146=>396 |51=>301 |n=>n,λ|1=>0 |n=>n⟩
theorem Tryz.Oy:Go.Proofs.Lays.n143 Tryz.prog Tryz.BU:={
 mixed:=by kernel_rfl
 f143:=Tryz.func197.trans (congrArg some (by kernel_rfl))
 f217:=Tryz.func341.trans (congrArg some (by kernel_rfl))
 f219:=Tryz.func294.trans (congrArg some (by kernel_rfl))
 f224:=Tryz.func343.trans (congrArg some (by kernel_rfl))
 f225:=Tryz.func342.trans (congrArg some (by kernel_rfl))
 f266:=Tryz.func373.trans (congrArg some (by kernel_rfl))
 f267:=Tryz.func344.trans (congrArg some (by kernel_rfl))
 f314:=Tryz.func374.trans (congrArg some (by kernel_rfl))
 t3:=Tryz.underlying3
 a3:=Tryz.isAgg3
 z3:=Tryz.sizeOf3
 v3:=Tryz.zeroValue3
 t4:=Tryz.underlying4
 a4:=Tryz.isAgg4
 z4:=Tryz.sizeOf4
 v4:=Tryz.zeroValue4
 t5:=Tryz.underlying5
 a5:=Tryz.isAgg5
 z5:=Tryz.sizeOf5
 v5:=Tryz.zeroValue5
 t9:=Tryz.underlying9
 a9:=Tryz.isAgg9
 z9:=Tryz.sizeOf9
 v9:=Tryz.zeroValue9
 t46:=Tryz.underlying224
 a46:=Tryz.isAgg224
 z46:=Tryz.sizeOf224
 v46:=Tryz.zeroValue224
 t51:=Tryz.underlying301
 a51:=Tryz.isAgg301
 z51:=Tryz.sizeOf301
 v51:=Tryz.zeroValue301
 t146:=Tryz.underlying396
 a146:=Tryz.isAgg396
 z146:=Tryz.sizeOf396
 v146:=Tryz.zeroValue396
 g1:=by kernel_rfl}
def Tryz.BV:Go.Shelf.Ren:=⟨λ|138=>196 |195=>291 |218=>293 |143=>197 |219=>294 |217=>341 |225=>342 |224=>343 |267=>344 |266=>373 |314=>374 |n=>n,λ|9=>9 |3=>3 |4=>4 |5=>5 |0=>0 |46=>224 |146=>396 |51=>301 |n=>n,λ|1=>0 |n=>n⟩
theorem Tryz.Oz:Go.Proofs.Lays.n138 Tryz.prog Tryz.BV:={
 mixed:=by kernel_rfl
 f138:=Tryz.func196.trans (congrArg some (by kernel_rfl))
 f143:=Tryz.func197.trans (congrArg some (by kernel_rfl))
 f195:=Tryz.func291.trans (congrArg some (by kernel_rfl))
 f217:=Tryz.func341.trans (congrArg some (by kernel_rfl))
 f218:=Tryz.func293.trans (congrArg some (by kernel_rfl))
 f219:=Tryz.func294.trans (congrArg some (by kernel_rfl))
 f224:=Tryz.func343.trans (congrArg some (by kernel_rfl))
 f225:=Tryz.func342.trans (congrArg some (by kernel_rfl))
 f266:=Tryz.func373.trans (congrArg some (by kernel_rfl))
 f267:=Tryz.func344.trans (congrArg some (by kernel_rfl))
 f314:=Tryz.func374.trans (congrArg some (by kernel_rfl))
 t0:=Tryz.underlying0
 a0:=Tryz.isAgg0
 z0:=Tryz.sizeOf0
 v0:=Tryz.zeroValue0
 t3:=Tryz.underlying3
 a3:=Tryz.isAgg3
 z3:=Tryz.sizeOf3
 v3:=Tryz.zeroValue3
 t4:=Tryz.underlying4
 a4:=Tryz.isAgg4
 z4:=Tryz.sizeOf4
 v4:=Tryz.zeroValue4
 t5:=Tryz.underlying5
 a5:=Tryz.isAgg5
 z5:=Tryz.sizeOf5
 v5:=Tryz.zeroValue5
 t9:=Tryz.underlying9
 a9:=Tryz.isAgg9
 z9:=Tryz.sizeOf9
 v9:=Tryz.zeroValue9
 t46:=Tryz.underlying224
 a46:=Tryz.isAgg224
 z46:=Tryz.sizeOf224
 v46:=Tryz.zeroValue224
 t51:=Tryz.underlying301
 a51:=Tryz.isAgg301
 z51:=Tryz.sizeOf301
 v51:=Tryz.zeroValue301
 t146:=Tryz.underlying396
 a146:=Tryz.isAgg396
 z146:=Tryz.sizeOf396
 v146:=Tryz.zeroValue396
 g1:=by kernel_rfl}
def Tryz.tu:Go.Shelf.Ren:=⟨λ|221=>144 |268=>195 |138=>196 |143=>197 |195=>291 |197=>292 |218=>293 |219=>294 |260=>340 |217=>341 |225=>342 |224=>343 |267=>344 |266=>373 |314=>374 |n=>n,λ|9=>9 |3=>3 |31=>42 |4=>4 |0=>0 |105=>330 |21=>21 |5=>5 |46=>224 |119=>392 |139=>395 |138=>394 |146=>396 |51=>301 |n=>n,λ|1=>0 |3=>1 |4=>2 |n=>n⟩
theorem Tryz.Ox:Go.Proofs.Lays.n221 Tryz.prog Tryz.tu:={
 mixed:=by kernel_rfl
 f138:=Tryz.func196.trans (congrArg some (by kernel_rfl))
 f143:=Tryz.func197.trans (congrArg some (by kernel_rfl))
 f195:=Tryz.func291.trans (congrArg some (by kernel_rfl))
 f197:=Tryz.func292.trans (congrArg some (by kernel_rfl))
 f217:=Tryz.func341.trans (congrArg some (by kernel_rfl))
 f218:=Tryz.func293.trans (congrArg some (by kernel_rfl))
 f219:=Tryz.func294.trans (congrArg some (by kernel_rfl))
 f221:=Tryz.func144.trans (congrArg some (by kernel_rfl))
 f224:=Tryz.func343.trans (congrArg some (by kernel_rfl))
 f225:=Tryz.func342.trans (congrArg some (by kernel_rfl))
 f260:=Tryz.func340.trans (congrArg some (by kernel_rfl))
 f266:=Tryz.func373.trans (congrArg some (by kernel_rfl))
 f267:=Tryz.func344.trans (congrArg some (by kernel_rfl))
 f268:=Tryz.func195.trans (congrArg some (by kernel_rfl))
 f314:=Tryz.func374.trans (congrArg some (by kernel_rfl))
 t0:=Tryz.underlying0
 a0:=Tryz.isAgg0
 z0:=Tryz.sizeOf0
 v0:=Tryz.zeroValue0
 t3:=Tryz.underlying3
 a3:=Tryz.isAgg3
 z3:=Tryz.sizeOf3
 v3:=Tryz.zeroValue3
 t4:=Tryz.underlying4
 a4:=Tryz.isAgg4
 z4:=Tryz.sizeOf4
 v4:=Tryz.zeroValue4
 t5:=Tryz.underlying5
 a5:=Tryz.isAgg5
 z5:=Tryz.sizeOf5
 v5:=Tryz.zeroValue5
 t9:=Tryz.underlying9
 a9:=Tryz.isAgg9
 z9:=Tryz.sizeOf9
 v9:=Tryz.zeroValue9
 t21:=Tryz.underlying21
 a21:=Tryz.isAgg21
 z21:=Tryz.sizeOf21
 v21:=Tryz.zeroValue21
 t31:=Tryz.underlying42
 a31:=Tryz.isAgg42
 z31:=Tryz.sizeOf42
 v31:=Tryz.zeroValue42
 t46:=Tryz.underlying224
 a46:=Tryz.isAgg224
 z46:=Tryz.sizeOf224
 v46:=Tryz.zeroValue224
 t51:=Tryz.underlying301
 a51:=Tryz.isAgg301
 z51:=Tryz.sizeOf301
 v51:=Tryz.zeroValue301
 t105:=Tryz.underlying330
 a105:=Tryz.isAgg330
 z105:=Tryz.sizeOf330
 v105:=Tryz.zeroValue330
 t119:=Tryz.underlying392
 a119:=Tryz.isAgg392
 z119:=Tryz.sizeOf392
 t138:=Tryz.underlying394
 a138:=Tryz.isAgg394
 z138:=Tryz.sizeOf394
 v138:=Tryz.zeroValue394
 t139:=Tryz.underlying395
 a139:=Tryz.isAgg395
 z139:=Tryz.sizeOf395
 v139:=Tryz.zeroValue395
 t146:=Tryz.underlying396
 a146:=Tryz.isAgg396
 z146:=Tryz.sizeOf396
 v146:=Tryz.zeroValue396
 g1:=by kernel_rfl
 g3:=by kernel_rfl
 g4:=by kernel_rfl}
end Go.Proofs
namespace Go.D
open Go
section
variable {P:Program} {σ:Sg} {m m':M} {w w':World}
def bytes?:aee->Option (List UInt8)
 |[]=>some []
 |.int .u8 x::r=>bif decide (0<=x) && decide (x<=255)then match bytes? r with |some l=>some (UInt8.ofNat x.toNat::l) |none=>none else none
 |_=>none
theorem wT:∀{vs:aee} {l:List UInt8},bytes? vs=some l->vs=Lib.byteCells l
 |[],l,h=>by cases h;rfl
 |v::r,l,h=>by
  unfold bytes? at h
  split at h
  ·rename_i H;cases H
  ·rename_i x r' H
   cases H
   cases F:(decide (0<=x) && decide (x<=255))with
   |false=>rw[F]at h;cases h
   |true=>
    rw[F,cond_true]at h
    rw[Ψ,aaC,aaC]at F
    split at h
    ·rename_i l' W
     cases h
     have hx:((UInt8.ofNat x.toNat).toNat:Int)=x:=by
      rw[UInt8.toNat_ofNat']
      have:=Int.toNat_of_nonneg F.1
      omega
     rw[wT W]
     simp only[Lib.byteCells,abT,hx]
    ·cases h
  ·cases h
def EX:aee->Option (List ByteArray)
 |[]=>some []
 |.string x::r=>match EX r with |some l=>some (x::l) |none=>none
 |_=>none
theorem yE:∀{vs:aee} {l:List ByteArray},EX vs=some l->vs=l.map .string
 |[],l,h=>by cases h;rfl
 |v::r,l,h=>by
  unfold EX at h
  split at h
  ·rename_i F;cases F
  ·rename_i x W F
   cases F
   split at h
   ·rename_i l' H
    cases h
    rw[abT,<-yE H]
   ·cases h
  ·cases h
def VN(T:Nat)(args:aee)(m:M):Option (aed×M):=
 match args with
 |[.pointer (some a)]=>
  match m.get a.block with
  |.cells [.pointer none,s] e none=>bif Nat.beq e T && Nat.beq a.off 0 && a.spot.isNone then some (.tuple #[],m.set a.block (.cells [.pointer (some a),s] e none))else none
  |.cells [.pointer (some F),_] e none=>bif Nat.beq e T && Nat.beq a.off 0 && a.spot.isNone && Nat.beq F.block a.block && Nat.beq F.off 0 && F.spot.isNone then some (.tuple #[],m)else none
  |_=>none
 |_=>none
def Df(T U:Nat)(args:aee)(m:M):Option (aed×M):=
 match args with
 |[.pointer (some a)]=>
  match m.get a.block with
  |.cells [_,.slice none 0 0] e none=>bif Nat.beq e T && Nat.beq a.off 0 && a.spot.isNone then some (.string ⟨#[]⟩,m)else none
  |.cells [_,.slice (some r) n c] e none=>
   bif Nat.beq e T && Nat.beq a.off 0 && a.spot.isNone && Nat.beq r.off 0 && r.spot.isNone && Nat.ble 1 n && Nat.ble n c then
    match m.get r.block with
    |.cells cs F _=>
     bif Nat.beq F U && Nat.ble n cs.length && Nat.ble n 1048576 then
      match bytes? (cs.take n)with
      |some l=>some (.string ⟨l.toArray⟩,m.set r.block .dead)
      |none=>none
     else none
    |_=>none
   else none
  |_=>none
 |_=>none
def UQ(args:aee)(m:M):Option (aed×M):=
 match args with
 |[.slice none 0 0,.string _]=>some (.string ⟨#[]⟩,m)
 |[.slice (some a) n c,.string sep]=>
  match m.get a.block with
  |.cells cs _ _=>
   bif a.spot.isNone && Nat.ble 1 n && Nat.ble n c && Nat.ble (a.off+n) cs.length && Nat.ble n 1048576 then
    match EX ((cs.drop a.off).take n)with
    |some xs=>bif Nat.ble (Lib.join (xs.map (·.data.toList)) sep.data.toList).length 1048576 then some (.string ⟨(Lib.join (xs.map (·.data.toList)) sep.data.toList).toArray⟩,m)else none
    |none=>none
   else none
  |_=>none
 |_=>none
def cutAt(c:UInt8):List UInt8->List (List UInt8)
 |[]=> [[]]
 |x::r=>bif x==c then []::cutAt c r else match cutAt c r with |h::t=>(x::h)::t |[]=> [[x]]
def UY(S:Nat)(args:aee)(m:M):Option (aed×M):=
 match args with
 |[.string s,.string t,.int .i64 0,.int .i64 (-1)]=>
  match t.data.toList with
  |[c]=>bif Nat.ble s.data.toList.length 1048576 then
    some (.slice (some ⟨m.n,0,none⟩) (cutAt c s.data.toList).length (cutAt c s.data.toList).length,m.push (.cells ((cutAt c s.data.toList).map λl=> .string ⟨l.toArray⟩) S none))
   else none
  |_=>none
 |_=>none
structure xV where
 cc:Nat
 st:Nat
 jn:Nat
 gs:Nat
 T:Nat
 U:Nat
 S:Nat
def uV(N:xV):aG:=λfn args m=>
 match fn with
 |.func f=>
  bif Nat.beq f N.cc then VN N.T args m
  else bif Nat.beq f N.st then Df N.T N.U args m
  else bif Nat.beq f N.jn then UQ args m
  else bif Nat.beq f N.gs then UY N.S args m
  else none
 |_=>none
def nQ(b:Nat):aed:=.pointer (some ⟨b,0,none⟩)
structure xC(P:Program)(N:xV):Prop where
 FK:∀f,(f=N.cc\/f=N.st\/f=N.jn\/f=N.gs)->∀args w,(callFunc f args).run P w=.ok (.enter f args) w
 fresh:∀(b:Nat) (w:World),w.cell? ⟨b,0,none⟩=some (.pointer none)->w.shape? b=some (N.T,2)->w.frozen? ⟨b,0,none⟩=false->
  Calls P N.cc #[nQ b] w λe w'=>e=.returned (.tuple #[])/\w'=w.setCell ⟨b,0,none⟩ (nQ b)
 used:∀(b:Nat) (w:World),w.cell? ⟨b,0,none⟩=some (nQ b)->Calls P N.cc #[nQ b] w λe w'=>e=.returned (.tuple #[])/\w'=w
 PU:∀(b:Nat) (p:aed) (w:World),w.heap[b]?=some (.cells #[p,.slice none 0 0] N.T (0,0))->Calls P N.st #[nQ b] w λe w'=>e=.returned (.string ⟨#[]⟩)/\w'.heap=w.heap/\w'.os=w.os/\w'.tape=w.tape/\w'.output=w.output
 str:∀(b g c:Nat) (p:aed) (cur:Array aed) (l:List UInt8) (w:World),w.heap[b]?=some (.cells #[p,.slice (some ⟨g,0,none⟩) l.length c] N.T (0,0))->w.heap[g]?=some (.cells cur N.U (0,0))->l≠ []->l.length<=c->l.length<=cur.size->l.length<=1048576->
  cur.toList.take l.length=Lib.byteCells l->Calls P N.st #[nQ b] w λe w'=>e=.returned (.string ⟨l.toArray⟩)/\(∀B,B≠g->w'.heap[B]?=w.heap[B]?)/\w'.heap.size=w.heap.size/\w'.os=w.os/\w'.tape=w.tape/\w'.output=w.output
 Qa:∀(a:Option Addr) (c:Nat) (sep:ByteArray) (w:World),Calls P N.jn #[.slice a 0 c,.string sep] w λe w'=>e=.returned (.string ⟨#[]⟩)/\w'=w
 join:∀(bk o c:Nat) (xs:List ByteArray) (sep:ByteArray) (w:World),(∀(j:Nat) x,xs[j]?=some x->w.cell? ⟨bk,o+j,none⟩=some (.string x))->bk < w.heap.size->xs.length<=1048576->xs.length<=c->
  (Lib.join (xs.map (·.data.toList)) sep.data.toList).length<=1048576->Calls P N.jn #[.slice (some ⟨bk,o,none⟩) xs.length c,.string sep] w λe w'=>e=.returned (.string ⟨(Lib.join (xs.map (·.data.toList)) sep.data.toList).toArray⟩)/\Go.RowKit.Below w.heap.size w w'
 split:∀(s:ByteArray) (c:UInt8) (w:World),s.data.toList.length<=1048576->Calls P N.gs #[.string s,.string ⟨#[c]⟩,.int .i64 0,.int .i64 (-1)] w λe w'=>
  e=.returned (.slice (some ⟨w.heap.size,0,none⟩) (cutAt c s.data.toList).length (cutAt c s.data.toList).length)/\w'=w.alloc (.cells ((cutAt c s.data.toList).map λl=>Value.string ⟨l.toArray⟩).toArray N.S)
theorem uT{a b:aed}{args':Array aed}(hl:bC σ [a,b] args'.toList):∃F H,args'= #[F,H]/\aS σ a F/\aS σ b H:=by obtain⟨F,l1,h1,ha,W⟩:=hl.cases;obtain⟨H,l2,h2,hb,a0⟩:=W.cases;have:=a0.nil_eq;refine⟨F,H,abl ?_,ha,hb⟩;rw[h1,h2,this]
theorem zL{a:aed}{args':Array aed}(W:bC σ [a] args'.toList):∃F,args'= #[F]/\aS σ a F:=by obtain⟨F,l1,h1,ha,H⟩:=W.cases;have:=H.nil_eq;refine⟨F,abl ?_,ha⟩;rw[h1,this]
theorem oP{a b:aed}{row:Array aed}(h:bC σ [a,b] (row.toList.take 2))(W:row.size=2):∃F H,row= #[F,H]/\aS σ a F/\aS σ b H:=by have e:row.toList.take 2=row.toList:=aa5 (by rw[aas,W];exact Ξ _);rw[e]at h;exact uT h
theorem oQ{v:aed}(F:aS σ v v)(H:dY P σ m w)(h:Ev P σ m w σ m' w'):db P σ m w v m' (.returned v) w':=⟨v,σ,rfl,F,h⟩
theorem VM{N:xV}(K:xC P N){args:aee}{v:aed}(h:VN N.T args m=some (v,m'))(hs:dY P σ m w){args':Array aed}(hl:bC σ args args'.toList):Calls P N.cc args' w (db P σ m w v m'):=by
 unfold VN at h;split at h
 ·rename_i a;obtain⟨x',rfl,hx⟩:=zL hl;obtain⟨i,hi,i0,rfl⟩:=hx.eP;split at h
  ·rename_i s e hg
   cases W:(Nat.beq e N.T && Nat.beq a.off 0 && a.spot.isNone)with
   |false=>rw[W]at h;cases h
   |true=>
    rw[W,cond_true]at h
    cases h
    simp only[Ψ]at W
    obtain⟨⟨c1,c2⟩,_⟩:=W
    obtain rfl:=aab c1
    have c2:=aab c2
    rw[c2]
    obtain⟨row,F,j0,a0,d0,b0⟩:=hs.cells hi hg
    obtain⟨p',s',rfl,hp,e0⟩:=oP a0 b0
    have:=hp.aU rfl
    subst this
    refine(K.fresh i.dg w (by simp[World.cell?,F]) (by simp[World.shape?,F]) (by simp[World.frozen?,F])).mono ?_
    rintro en w2 ⟨rfl,rfl⟩
    have H:∀B,(w.setCell ⟨i.dg,0,none⟩ (nQ i.dg)).heap[B]?=if B=i.dg then some (.cells #[nQ i.dg,s'] N.T (0,0))else w.heap[B]?:=by
     intro B;simp only[World.setCell,abP];by_cases hB:i.dg=B
     ·subst hB;rw[aaf rfl,aaf rfl,F];rfl
     rw[aaa hB,aaa (λq=>hB q.symm)]
    refine oQ .undef hs (Ev.write hs hi (by rw[hg];exact λq=>by cases q) ?_ (λB hB=>by rw[H,aaa hB]) (by simp[World.setCell]) rfl rfl rfl)
    refine⟨#[nQ i.dg,s'],by rw[H,aaf rfl],by simp,⟨rfl,λj u u' hu g0=>?_⟩,d0,rfl⟩
    match j with
    |0=>
     cases hu;have:nQ i.dg=u':=by simpa using g0
     rw[<-this];have:=aS.ptr a i hi i0;rw[c2]at this;exact this
    |1=>
     cases hu;have:s'=u':=by simpa using g0
     rw[<-this];exact e0
    |j+2=>simp at hu
  ·rename_i a' s e hg
   cases W:(Nat.beq e N.T && Nat.beq a.off 0 && a.spot.isNone && Nat.beq a'.block a.block && Nat.beq a'.off 0 && a'.spot.isNone)with
   |false=>rw[W]at h;cases h
   |true=>rw[W,cond_true]at h;cases h;simp only[Ψ]at W;obtain⟨⟨⟨⟨⟨c1,c2⟩,_⟩,c4⟩,c5⟩,_⟩:=W;have c2:=aab c2;have c4:=aab c4;have c5:=aab c5;rw[c2];obtain⟨row,F,j0,a0,d0,b0⟩:=hs.cells hi hg;obtain⟨p',s',rfl,hp,e0⟩:=oP a0 b0;obtain⟨i',h0,_,rfl⟩:=hp.eP;rw[c4,hi]at h0;cases h0;refine(K.used i.dg w (by simp[World.cell?,F,c5,nQ])).mono ?_;rintro en w2 ⟨rfl,rfl⟩;exact oQ .undef hs (.refl hs)
  cases h
 cases h
theorem JW{N:xV}(K:xC P N){a:Addr}{v:aed}{b:Nat}(h:Df N.T N.U [.pointer (some a)] m=some (v,m'))(hb:pR m a=some b):
  m.get b≠.dead/\m'=m.set b .dead/\∀σ w (args':Array aed),dY P σ m w->bC σ [.pointer (some a)] args'.toList->
   ∃i,σ b=some i/\Calls P N.st args' w λe w'=>db P σ m w v m' e w'/\∀B,B≠i.dg->w'.heap[B]?=w.heap[B]?:=by
 unfold Df at h;dsimp only at h;unfold pR at hb;split at h
 ·rename_i p e hg;rw[hg]at hb;cases hb
 ·rename_i p r n c e hg;rw[hg]at hb;cases hb;rw[cond_eq_ite]at h;split at h
  ·rename_i hc;simp only[Ψ]at hc;obtain⟨⟨⟨⟨⟨⟨c1,c2⟩,_⟩,c4⟩,c5⟩,c6⟩,c7⟩:=hc;have c7:=aar c7;obtain rfl:=aab c1;have c2:=aab c2;have c4:=aab c4;have c6:=aar c6;split at h
   ·rename_i cs e' g F;rw[cond_eq_ite]at h;split at h
    ·rename_i hd;simp only[Ψ]at hd;obtain⟨⟨d1,d2⟩,d3⟩:=hd;obtain rfl:=aab d1;have d2:=aar d2;have d3:=aar d3;split at h
     ·rename_i l d0;cases h;have H:=wT d0
      have hlen:l.length=n:=by have:=congrArg List.length H;rw[Lib.byteCells_length,aap]at this;omega
      refine⟨by rw[F];exact(λq=>by cases q),rfl,λσ w args' hs hl=>?_⟩;obtain⟨x',rfl,hx⟩:=zL hl;obtain⟨i,hi,r0,rfl⟩:=hx.eP;rw[c2];obtain⟨row,e0,s0,g0,u0,h0⟩:=hs.cells hi hg;obtain⟨p',s',rfl,hp,i0⟩:=oP g0 h0;obtain⟨j,a',c',hj,rfl,W⟩:=i0.dK
      have j0:a'=⟨j.dg,r.off,none⟩/\c<=c':=by
       rcases W with⟨_,h2,h3⟩ |⟨h2,_⟩
       ·refine⟨h2,?_⟩;rcases h3 with⟨_,h3⟩ |⟨k,sz,M0,_,h3 |h3⟩;·omega
        ·omega
        exact h3.1
       omega
      obtain⟨rfl,v0⟩:=j0;obtain⟨cur,k0,z0,l0,A0⟩:=hs.cells hj F
      have b0:cur.toList.take l.length=Lib.byteCells l:=by
       rw[<-H,hlen]
       have e1:(cur.toList.take cs.length).take n=cs.take n:=by
        apply abt;intro k;by_cases hk:k < n
        ·rw[aaI hk,aaI hk];have a0:k < cs.length:=by omega
         obtain⟨u,o0,q0⟩:=l0.get (Φ a0);rw[o0,Φ a0]
         have:cy cs[k]=true:=by
          have e2:cs[k]?=(Lib.byteCells l)[k]?:=by rw[<-H,aaI hk]
          rw[Φ a0]at e2;unfold Lib.byteCells at e2;rw[aaA,Φ (by omega)]at e2;simp only[aag,aae]at e2;rw[e2];rfl
         rw[q0.aU this]
        rw[abb (by rw[aap];omega),abb (by rw[aap];omega)]
       rw[ab1,abL d2]at e1;exact e1
      refine⟨j,hj,(K.str i.dg j.dg c' p' cur l w (by have q:=e0;rw[c4]at q;rw[hlen];exact q) k0 (λq=>by rw[q]at hlen;simp at hlen;omega) (by omega) (by omega) (by omega) b0).mono ?_⟩;rintro en w2 ⟨rfl,h1,h2,h3,h4,h5⟩;exact⟨oQ (.flat _ rfl) hs (Ev.write hs hj (by rw[F];exact λq=>by cases q) trivial h1 h2 h3 h4 h5),h1⟩
     cases h
    cases h
   cases h
  cases h
 cases h
theorem UD{N:xV}(K:xC P N){args:aee}{v:aed}(h:Df N.T N.U args m=some (v,m'))(F:dY P σ m w){args':Array aed}(hl:bC σ args args'.toList):Calls P N.st args' w (db P σ m w v m'):=by
 have h0:=h;unfold Df at h;split at h
 ·rename_i a;split at h
  ·rename_i p e W;rw[cond_eq_ite]at h;split at h
   ·rename_i H;cases h;simp only[Ψ]at H;obtain⟨⟨c1,c2⟩,_⟩:=H;obtain⟨x',rfl,hx⟩:=zL hl;obtain⟨i,hi,g0,rfl⟩:=hx.eP;obtain rfl:=aab c1;have c2:=aab c2;rw[c2];obtain⟨row,a0,i0,b0,j0,d0⟩:=F.cells hi W;obtain⟨p',s',rfl,hp,e0⟩:=oP b0 d0;have:=e0.aU rfl;subst this;refine(K.PU i.dg p' w a0).mono ?_;rintro en w2 ⟨rfl,h1,h2,h3,h4⟩;exact oQ (.flat _ rfl) F (.of_heap F h1 h2 h3 h4)
   cases h
  ·rename_i p r n c e W;obtain⟨_,_,h3⟩:=JW K h0 (b:=r.block) (by unfold pR;rw[W]);obtain⟨i,_,H⟩:=h3 σ w args' F hl;exact H.mono λe w' q=>q.1
  cases h
 cases h
theorem UP{N:xV}(K:xC P N){args:aee}{v:aed}(h:UQ args m=some (v,m'))(W:dY P σ m w){args':Array aed}(hl:bC σ args args'.toList):Calls P N.jn args' w (db P σ m w v m'):=by
 unfold UQ at h;split at h
 ·cases h;obtain⟨x',y',rfl,hx,hy⟩:=uT hl;obtain⟨_,_,rfl⟩:=hx.e6;have:=hy.aU rfl;subst this;refine(K.Qa none 0 _ w).mono ?_;rintro en w2 ⟨rfl,rfl⟩;exact oQ (.flat _ rfl) W (.refl W)
 ·rename_i a n c sep;obtain⟨x',y',rfl,hx,hy⟩:=uT hl;have:=hy.aU rfl;subst this;split at h
  ·rename_i cs e g hg
   cases hc:(a.spot.isNone && Nat.ble 1 n && Nat.ble n c && Nat.ble (a.off+n) cs.length && Nat.ble n 1048576)with
   |false=>rw[hc]at h;cases h
   |true=>
    rw[hc,cond_true]at h;simp only[Ψ]at hc;obtain⟨⟨⟨⟨_,c2⟩,c3⟩,c4⟩,c5⟩:=hc;have c2:=aar c2;have c3:=aar c3;have c4:=aar c4;have c5:=aar c5;split at h
    ·rename_i xs d0
     cases hd:Nat.ble (Lib.join (xs.map (·.data.toList)) sep.data.toList).length 1048576 with
     |false=>rw[hd]at h;cases h
     |true=>
      rw[hd,cond_true]at h;cases h;have hd:=aar hd;have a0:=yE d0
      have hlen:xs.length=n:=by have:=congrArg List.length a0;simp only[aap,aaK,aaB]at this;omega
      obtain⟨i,a',c',hi,rfl,F⟩:=hx.dK
      have e0:a'=⟨i.dg,a.off,none⟩/\c<=c':=by
       rcases F with⟨_,h2,h3⟩ |⟨h2,_⟩
       ·refine⟨h2,?_⟩;rcases h3 with⟨_,h3⟩ |⟨k,sz,M0,_,h3 |h3⟩;·omega
        ·omega
        exact h3.1
       omega
      obtain⟨rfl,k0⟩:=e0;obtain⟨row,g0,l0,h0,o0⟩:=W.cells hi hg
      have H:∀(k:Nat) x,xs[k]?=some x->w.cell? ⟨i.dg,a.off+k,none⟩=some (.string x):=by
       intro k x hk
       have i0:k < n:=by rw[<-hlen];exact(Ω.1 hk).1
       have e1:cs[a.off+k]?=some (.string x):=by have:=congrArg (λl=>l[k]?) a0;simp only[abX,aaW,aaA]at this;rw[aaf i0,hk]at this;exact this
       obtain⟨u,b0,j0⟩:=h0.get e1;rw[aaI (by omega)]at b0;have:=j0.aU rfl;subst this;simp only[World.cell?,g0];simpa using b0
      have e2:Value.slice (some ⟨i.dg,a.off,none⟩) n c'=aec i.dg a.off xs.length c':=by rw[hlen]
      rw[e2];refine(K.join i.dg a.off c' xs sep w H (W.lt _ _ hi) (by omega) (by omega) hd).mono ?_;rintro en w2 ⟨rfl,hb⟩;exact oQ (.flat _ rfl) W (Ev.kept W (λB hB=>hb.block B hB) hb.size hb.os hb.tape hb.output)
    cases h
  cases h
 cases h
theorem UX{N:xV}(K:xC P N){args:aee}{v:aed}(h:UY N.S args m=some (v,m'))(hs:dY P σ m w){args':Array aed}(hl:bC σ args args'.toList):Calls P N.gs args' w (db P σ m w v m'):=by
 unfold UY at h;split at h
 ·rename_i s t;obtain⟨x',l1,h1,hx,a0⟩:=hl.cases;obtain⟨y',l2,h2,hy,b0⟩:=a0.cases;obtain⟨z',l3,h3,hz,d0⟩:=b0.cases;obtain⟨u',l4,h4,hu,e0⟩:=d0.cases;have h5:=e0.nil_eq;have e1:=hx.aU rfl;have e2:=hy.aU rfl;have e3:=hz.aU rfl;have e4:=hu.aU rfl
  have H:args'= #[.string s,.string t,.int .i64 0,.int .i64 (-1)]:=by apply abl;rw[h1,h2,h3,h4,h5,e1,e2,e3,e4]
  subst H;split at h
  ·rename_i c ht
   cases W:Nat.ble s.data.toList.length 1048576 with
   |false=>rw[W]at h;cases h
   |true=>
    rw[W,cond_true]at h;cases h;have W:=aar W
    have e:t=⟨#[c]⟩:=by
     cases t with
     |mk d=>
      congr 1
      exact abl ht
    rw[e];refine(K.split s c w W).mono ?_;rintro en w2 ⟨rfl,rfl⟩
    have g0:=Ev.oY (ob:=.cells ((cutAt c s.data.toList).map λl=> .string ⟨l.toArray⟩) N.S none) (o:=.cells ((cutAt c s.data.toList).map λl=>Value.string ⟨l.toArray⟩).toArray N.S) (gr:=none) hs
     ⟨_,heap_alloc_new w _,by simp,⟨by simp,λj u u' hu F=>by rw[aa5 (by simp)]at F;simp only at F;rw[hu]at F;cases F;obtain⟨l,_,rfl⟩:=aaU.1 (aac hu);exact .flat _ rfl⟩,rfl,by simp⟩
    refine⟨_,_,rfl,?_,g0⟩;exact .slice ⟨m.n,0,none⟩ ⟨w.heap.size,none⟩ _ _ (by unfold Sg.add;rw[aaf rfl]) rfl rfl
  cases h
 cases h
theorem M3{T:Nat}{args:aee}{v:aed}(h:VN T args m=some (v,m')):LK m m':=by
 unfold VN at h;split at h
 ·split at h
  ·rename_i F;rw[cond_eq_ite]at h;split at h;·cases h;exact LK.set (λr q=>by rw[F]at q;cases q)
   cases h
  ·rw[cond_eq_ite]at h;split at h;·cases h;exact LK.refl
   cases h
  cases h
 cases h
theorem GM{T U:Nat}{args:aee}{v:aed}(h:Df T U args m=some (v,m')):LK m m':=by
 unfold Df at h;split at h
 ·split at h
  ·rw[cond_eq_ite]at h;split at h;·cases h;exact LK.refl
   cases h
  ·rw[cond_eq_ite]at h;split at h
   ·split at h
    ·rename_i F;rw[cond_eq_ite]at h;split at h
     ·split at h;·cases h;exact LK.set (λr q=>by rw[F]at q;cases q)
      cases h
     cases h
    cases h
   cases h
  cases h
 cases h
theorem Le{args:aee}{v:aed}(h:UQ args m=some (v,m')):LK m m':=by
 unfold UQ at h;split at h;·cases h;exact LK.refl
 ·split at h
  ·rw[cond_eq_ite]at h;split at h
   ·split at h
    ·rw[cond_eq_ite]at h;split at h;·cases h;exact LK.refl
     cases h
    cases h
   cases h
  cases h
 cases h
theorem Ll{S:Nat}{args:aee}{v:aed}(h:UY S args m=some (v,m')):LK m m':=by
 unfold UY at h;split at h
 ·split at h
  ·rw[cond_eq_ite]at h;split at h;·cases h;exact LK.push
   cases h
  cases h
 cases h
theorem De(N:xV):fC (uV N):=by
 intro f args m v m' h
 unfold uV at h
 cases f with
 |func f=>
  dsimp only at h;simp only[cond_eq_ite]at h;split at h;·exact M3 h
  split at h;·exact GM h
  split at h;·exact Le h
  split at h;·exact Ll h
  cases h
 |_=>cases h
theorem JT{N:xV}(K:xC P N)(W:N.st=tP)(a0:Nat.beq tP N.cc=false):cQ P (uV N):=by
 refine⟨λf args m v m' F σ w H hs hl=>?_,λl args m v m' F=>by simp[uV]at F,De N,λa m v m' b F hb=>?_⟩
 rotate_left
 ·have h2:Nat.beq tP N.st=true:=by rw[W];rfl
  simp only[uV,a0,h2,cond_false,cond_true]at F;obtain⟨q1,q2,q3⟩:=JW K F hb;refine⟨q1,q2,λσ w H hs hl=>?_⟩;obtain⟨i,hi,hc⟩:=q3 σ w H hs hl;rw[W]at hc;exact⟨i,hi,callsIn_wide.2 hc,by have:=K.FK N.st (.inr (.inl rfl)) H w;rw[W]at this;exact this⟩
 unfold uV at F
 dsimp only at F
 cases h1:Nat.beq f N.cc with
 |true=>obtain rfl:=aab h1;rw[h1,cond_true]at F;exact⟨callsIn_wide.2 (VM K F hs hl),K.FK _ (.inl rfl) _ _⟩
 |false=>
  rw[h1,cond_false]at F
  cases h2:Nat.beq f N.st with
  |true=>obtain rfl:=aab h2;rw[h2,cond_true]at F;exact⟨callsIn_wide.2 (UD K F hs hl),K.FK _ (.inr (.inl rfl)) _ _⟩
  |false=>
   rw[h2,cond_false]at F
   cases h3:Nat.beq f N.jn with
   |true=>obtain rfl:=aab h3;rw[h3,cond_true]at F;exact⟨callsIn_wide.2 (UP K F hs hl),K.FK _ (.inr (.inr (.inl rfl))) _ _⟩
   |false=>
    rw[h3,cond_false]at F
    cases h4:Nat.beq f N.gs with
    |true=>obtain rfl:=aab h4;rw[h4,cond_true]at F;exact⟨callsIn_wide.2 (UX K F hs hl),K.FK _ (.inr (.inr (.inr rfl))) _ _⟩
    |false=>rw[h4]at F;cases F
theorem qC{c:UInt8}:∀{l:List UInt8},(∀(k:Nat),l[k]?≠some c)->cutAt c l=[l]
 |[],_=>rfl
 |x::r,h=>by
  have F:(x==c)=false:=by
   rw[beq_eq_false_iff_ne]
   intro e
   exact h 0 (by simp[e])
  have:=qC (l:=r) (λk=>h (k+1))
  unfold cutAt
  rw[F,this]
  rfl
theorem wK{c:UInt8}:∀{l:List UInt8} {i:Nat},l[i]?=some c->(∀(k:Nat),k < i->l[k]?≠some c)->cutAt c l=l.take i::cutAt c (l.drop (i+1))
 |[],i,h,_=>by cases h
 |x::r,0,h,_=>by
  have:x=c:=by simpa using h
  subst this
  rw[cutAt]
  simp
 |x::r,i+1,h,F=>by
  have H:(x==c)=false:=by
   rw[beq_eq_false_iff_ne]
   intro e
   exact F 0 (by omega) (by simp[e])
  have:=wK (l:=r) (i:=i) (by simpa using h) (λk W=>by have:=F (k+1) (by omega);simpa using this)
  rw[cutAt,H,this]
  rfl
theorem uX(c:UInt8):∀(k:Nat) (l:List UInt8),l.count c<=k->Lib.splitK [c] 0 k l=cutAt c l
 |0,l,h=>by
  rw[Lib.splitK,qC]
  intro j hj
  have:=List.count_pos_iff.2 (aac hj)
  omega
 |k+1,l,h=>by
  rw[Lib.splitK,Lib.index_one]
  by_cases hi:Lib.indexByte l c= -1
  ·rw[aaf (by simp[hi]),qC (Lib.indexByte_none hi)]
  ·have a0:=Lib.indexByte_ge l c
   obtain⟨o,W⟩:∃o:Nat,Lib.indexByte l c=o:=⟨(Lib.indexByte l c).toNat,by omega⟩
   obtain⟨H,h2⟩:=Lib.indexByte_some W
   rw[aaa (by simp;exact hi),W,wK H h2]
   have e:((o:Int)).toNat=o:=rfl
   rw[e]
   simp only[abC,aaJ,abc,aaq]
   rw[uX c k]
   have F:=(Ω.1 H).1
   have e2:l=l.take o++c::l.drop (o+1):=by
    have e3:l[o]=c:=by rw[Φ F]at H;exact Option.some.inj H
    rw[<-e3,<-ab6 F,abV]
   have e4:=congrArg (List.count c) e2
   rw[List.count_append,List.count_cons_self]at e4
   omega
theorem Dj(c:UInt8)(s:ByteArray):Lib.splitB ⟨#[c]⟩ 0 (Lib.countB s ⟨#[c]⟩) s=(cutAt c s.data.toList).map λl=>⟨l.toArray⟩:=by
 have h:=Lib.splitB_data ⟨#[c]⟩ 0 (Lib.countB s ⟨#[c]⟩) s;rw[uX c _ _ (by rw[Lib.countB];exact Nat.le_of_eq (Lib.count_one _ _).symm)]at h;rw[<-h,ada]
 have:((λl:List UInt8=>(⟨l.toArray⟩:ByteArray))∘ λx:ByteArray=>x.data.toList)=id:=by
  funext x
  cases x
  simp
 rw[this,List.map_id]
end
end Go.D
namespace Go.Proofs
open Go.Shelf Go.RowKit
section
variable {P:Program} {ρ:Ren}
set_option maxHeartbeats 2000000 in
theorem wV(L:Lays.n169 P ρ)(X:Builder.Extra P ρ)(b:Nat)(a:Option Addr)(n cap:Nat)(q:Option Addr)(s:ByteArray)(w F:World)(c1:w.drew.cell? ⟨b,1,none⟩=some (.slice a n cap))
  (W:(Builtin.unsafeSliceData_ #[ρ.t 37] (ρ.t 127) #[.slice a n cap]).run P w.drew=.ok (.pointer q) w.drew)
  (a0:(Builtin.unsafeString_ #[ρ.t 127,ρ.t 3] (ρ.t 9) #[.pointer q,.int .i64 n]).run P w.drew=.ok (.string s) F):
  Calls P (ρ.f 169) #[.pointer (some ⟨b,0,none⟩)] w λe w'=>e=.returned (.string s)/\w'=F:=by
 have mixed:=L.mixed
 have t72:=L.t72;have a72:=L.a72;have z72:=L.z72;have v72:=L.v72;have b0:=aak L.t72
 have t70:=L.t70;have a70:=L.a70;have z70:=L.z70;have v70:=L.v70;have d0:=aak L.t70
 have t37:=L.t37;have a37:=L.a37;have z37:=L.z37;have v37:=L.v37;have e0:=aak L.t37
 have t127:=L.t127;have a127:=L.a127;have z127:=L.z127;have v127:=L.v127;have H:=aak L.t127
 have t3:=L.t3;have a3:=L.a3;have z3:=L.z3;have v3:=L.v3;have u3:=aak L.t3
 have t9:=L.t9;have a9:=L.a9;have z9:=L.z9;have v9:=L.v9;have u9:=aak L.t9
 have t5:=X.t5;have a5:=X.a5;have z5:=X.z5;have v5:=X.v5;have u5:=aak X.t5
 go_enter L.f169,Body.n169_ntmps ρ
 go_wp2
 go_region_o
 all_goals (go_wp2;go_ret;exact⟨rfl,rfl⟩)
end
def UC:D.xV:=⟨141,77,79,144,142,5,9⟩
theorem Ck(w:World)(g n:Nat){B:Nat}(F:B≠g):(w.freeze ⟨g,0,none⟩ n).heap[B]?=w.heap[B]?:=by
 unfold World.freeze;split;·rfl
 simp only[abP];rw[aaa (λe=>F e.symm)]
theorem Cj(w:World)(g n:Nat):(w.freeze ⟨g,0,none⟩ n).heap.size=w.heap.size/\(w.freeze ⟨g,0,none⟩ n).os=w.os/\(w.freeze ⟨g,0,none⟩ n).tape=w.tape/\(w.freeze ⟨g,0,none⟩ n).output=w.output:=by
 unfold World.freeze;split;·exact⟨rfl,rfl,rfl,rfl⟩
 exact⟨by simp,rfl,rfl,rfl⟩
theorem UB:D.xC Tryz.prog UC where
 FK:=by
  rintro f (rfl |rfl |rfl |rfl)
  ·exact enters_of Tryz.func141 (by kernel_rfl) rfl
  ·exact enters_of Tryz.func77 (by kernel_rfl) rfl
  ·exact enters_of Tryz.func79 (by kernel_rfl) rfl
  ·exact enters_of Tryz.func144 (by kernel_rfl) rfl
 fresh:=λb w h0 g0 i0=>Any.Builder_copyCheck_fresh (ρ:=Tryz.lL) {Tryz.uw with} Tryz.fQ.toX72 b w h0 g0 i0
 used:=λb w h0=>Any.Builder_copyCheck_used (ρ:=Tryz.lL) {Tryz.uw with} Tryz.fQ.toX72 b w h0
 PU:=λb p w hb=>by
  have c1:w.drew.cell? ⟨b,1,none⟩=some aeg:=by
   have:w.drew.heap[b]?=some (.cells #[p,aeg] 142 (0,0)):=hb
   rw[Lib.cell_of_heap this];rfl
  refine(wV Tryz.uv Tryz.fP b none 0 0 none ⟨#[]⟩ w w.drew c1 rfl (Any.unsafeString_none Tryz.uv Tryz.fP w.drew none)).mono ?_
  rintro e w' ⟨rfl,rfl⟩
  exact⟨rfl,rfl,rfl,rfl,rfl⟩
 str:=λb g c p cur l w hb hg h0 hc a0 hlen W=>by
  have c1:w.drew.cell? ⟨b,1,none⟩=some (aec g 0 l.length c):=by
   have:w.drew.heap[b]?=some (.cells #[p,aec g 0 l.length c] 142 (0,0)):=hb
   rw[Lib.cell_of_heap this];rfl
  have l0:l.length≠0:=by simpa using h0
  have b0:w.drew.heap[g]?=some (.cells cur 5 (0,0)):=hg
  have j0:=Lib.run_unsafeString_row (P:=Tryz.prog) w.drew (Tryz.iB.t 127) (Tryz.iB.t 3) (Tryz.iB.t 9) (Tryz.iB.t 5) Tryz.uv.t127 Tryz.fP.cellsByte g cur.size (by simp only[World.shape?,b0];rfl) l h0 a0 (by omega) (λj x hx=>by
   have hj:j < l.length:=(Ω.1 hx).1
   have e1:cur.toList[j]?=(Lib.byteCells l)[j]?:=by rw[<-W,aaI hj]
   rw[D.eo]
   simp only[World.cell?,b0]
   rw[aaq]
   have e2:(Lib.byteCells l)[j]?=some (.int .u8 x.toNat):=by simp[Lib.byteCells,hx]
   rw[e2]at e1
   simpa using e1)
  refine(wV Tryz.uv Tryz.fP b (some ⟨g,0,none⟩) l.length c (some ⟨g,0,none⟩) ⟨l.toArray⟩ w _ c1 (Lib.run_unsafeSliceData_row _ _ _ _ _ _ (by omega)) j0).mono ?_
  rintro e w' ⟨rfl,rfl⟩
  obtain⟨f1,f2,f3,f4⟩:=Cj w.drew g l.length
  exact⟨rfl,λB hB=>Ck w.drew g l.length hB,f1,f2,f3,f4⟩
 Qa:=λa c sep w=>Any.strings_Join_none Tryz.uw Tryz.fQ a c sep w
 join:=λbk o c xs sep w h1 h2 h3 h4 h5=>Any.strings_Join Tryz.uw Tryz.fQ bk o c xs sep w h1 h2 (by omega) h4 (by omega)
 split:=λs c w hs=>by
  have d0:s.size=s.data.toList.length:=by rfl
  have e0:Lib.countB s ⟨#[c]⟩=s.data.toList.count c:=Lib.count_one _ _
  have hle:Lib.countB s ⟨#[c]⟩<=s.data.toList.length:=by rw[e0];exact List.count_le_length
  have h:=Any.strings_genSplit_core Tryz.Ox (by kernel_rfl) s ⟨#[c]⟩ 0 (-1) (Lib.countB s ⟨#[c]⟩+1) w (by rw[d0];omega) (Ξ 1) (aaQ _)
   (λx cc _=>by
    have:=Any.strings_Index_one Tryz.Oy x c (w.alloc (.cells cc (Tryz.tu.t 9)))
    rw[<-Lib.index_one]at this
    exact this)
   (by
    have:=Any.strings_Count_one Tryz.Oz s c w
    rw[show Lib.countByte s.data.toList c=Lib.countB s ⟨#[c]⟩from e0.symm]at this
    exact this) (by decide) (by decide) (by rw[aaf (by decide),d0];omega)
  have H:=D.Dj c s
  have hlen:(Lib.splitB ⟨#[c]⟩ 0 (Lib.countB s ⟨#[c]⟩) s).length=Lib.countB s ⟨#[c]⟩+1:=Lib.splitB_all ⟨#[c]⟩ (Ξ 1) 0 _ s rfl
  rw[ad4]at h
  have F:Lib.cellsOf (Lib.splitB ⟨#[c]⟩ 0 (Lib.countB s ⟨#[c]⟩) s) (Lib.countB s ⟨#[c]⟩+1)=((Lib.splitB ⟨#[c]⟩ 0 (Lib.countB s ⟨#[c]⟩) s).map Value.string).toArray:=by rw[<-hlen];exact Lib.cellsOf_full _
  rw[F,hlen]at h
  have k0:(D.cutAt c s.data.toList).length=Lib.countB s ⟨#[c]⟩+1:=by rw[<-hlen,H,aaB]
  rw[H,ada]at h
  rw[k0]
  exact h
end Go.Proofs
