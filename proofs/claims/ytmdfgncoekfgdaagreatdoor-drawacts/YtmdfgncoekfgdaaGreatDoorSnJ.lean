/- sane() returns true, and leaves .. -/
import Derived.Test.YtmdfgncoekfgdaaGreatDoorSn1J
import Derived.Test.YtmdfgncoekfgdaaGreatDoorSn3J
import Derived.Test.YtmdfgncoekfgdaaGreatDoorSn4J
import Derived.Test.YtmdfgncoekfgdaaGreatDoorSn5J
import Derived.Test.YtmdfgncoekfgdaaGreatDoorSn6J
import Derived.Test.YtmdfgncoekfgdaaGreatDoorG17J
noncomputable section
namespace Go.D
open Go
theorem Tr.set_set{α:Type}(x y:α):∀(t:Tr α) (i:Nat),(t.set i x).set i y=t.set i y
 |.e,i=>by
  rw[Tr.Be,Tr.Be]
  exact pZ x y i i (Ξ _)
 |.n v l r,0=>rfl
 |.n v l r,i+1=>by
  rw[Tr.iK,Tr.iK]
  cases F:Nat.beq (i%2) 0 with
  |true=>simp only[cond_true,Tr.iK,F,Tr.set_set x y l]
  |false=>simp only[cond_false,Tr.iK,F,Tr.set_set x y r]
where
 pZ {α:Type} (x y:α):∀(f i:Nat),i<=f->(Tr.single x f i).set i y=Tr.single y f i
  |0,i,h=>by
   obtain rfl:=Nat.le_zero.1 h
   rfl
  |f+1,0,h=>rfl
  |f+1,i+1,h=>by
   have e:∀z:α,Tr.single z (f+1) (i+1)=bif Nat.beq (i%2) 0 then .n none (Tr.single z f (i/2)) .e else .n none .e (Tr.single z f (i/2)):=λz=>rfl
   rw[e,e]
   cases F:Nat.beq (i%2) 0 with
   |true=>simp only[cond_true,Tr.iK,F,pZ x y f (i/2) (by omega)]
   |false=>simp only[cond_false,Tr.iK,F,pZ x y f (i/2) (by omega)]
theorem M.set_set{m:M}{b:Nat}{o F:Ob}:(m.set b o).set b F=m.set b F:=by unfold M.set;dsimp only;rw[Tr.set_set,Nat.min_assoc,acQ]
theorem Kn.nil{T:Tr aed}:Kn .e T:=λt v h=>by cases h
theorem Kn.cons{T:Tr aed}{K:KT}{t:Nat}{x:KV}(h:T.get t=some x.val)(H:Kn K T):Kn (.c t (some x) K) T:=by
 intro i v F;rw[KT.Lo]at F;split at F
 ·rename_i e;cases F;rw[e];exact h
 exact H i v F
end Go.D
namespace Go.Proofs.YtmdfgncoekfgdaaGreatDoor
open Go Go.D Go.Proofs
namespace qL
set_option maxRecDepth 1000000
def d38:Code:=.seq (TO.getD 10 .skip) (.seq (TO.getD 11 .skip) (TO.getD 12 .skip))
def Fe:List ResultVar:=Tryz.f32.results.toList
theorem XX{W:Words}{p2 mp F sl n i:aed}{m:M}{lo:Nat}{R:aee->M->Nat->Prop}:
  sj TE W d38 (tn Fe) ⟨.c 2 (some (.v p2)) (.c 8 (some (.v mp)) (.c 11 (some (.v F)) (.c 49 (some (.v sl)) (.c 50 (some (.v n)) (.c 51 (some (.v i)) .e))))),m,lo⟩ (post TE Fe R)=
(W.Lp (λP1 d0 H a0=>W.un d0 λv5 r6=>(W.aj (aw TE .lss 3 v5 n) λv7=>(bD v7
(W.aj (ak TE 25 sl v5) λv8=>(W.aj (ah TE H 3 v8) λv9=>(W.aj (af TE 27 F 2) λv10=>(W.aj (ah TE H 25 v10) λv11=>(W.aj (dn TE H 165 mp v9 false) λv12=>(W.aj (ak TE 25 v11 v5) λe0=>(W.aT (aA TE H 3 e0 v12) λg0 h0=>(W.aj (aw TE .add 3 v5 (.int .i64 1)) λi0=>(P1 [i0] g0 (min a0 h0))))))))))
(W.aj (ah TE H 27 F) λj0=>(W.aT (aA TE H 27 p2 j0) λb0 k0=>(aj (ah TE b0 27 p2) λw=>R [w,.int .i64 0] b0 (min a0 k0))))))) [i] m lo):=by kernel_rfl
def ur:M:=⟨Mz,1852,1852⟩
def WM:aed:=.agg #[S 10 2 3,O,S 1851 1 1,O]
def PX:aed:=.agg #[I 40,I 40,S 2301 1600 1600]
def Bi(i:Nat):Ob:=.cells (((((dh us false).take i).map CQ)++(dh us false).drop i).map (.int .i64)) 3 (some 1)
def Io(i:Nat):M:=ng.m.set 2301 (Bi i)
def ND:M:=(Io 1600).set 1853 (.cells [I 40,I 40,S 2301 1600 1600] 27 none)
theorem MF:∀x∈dh us false,x= -1\/x=3\/x=5\/x=8:=by intro x F;have h:=aay.1 (show(dh us false).all (λx=>decide (x= -1\/x=3\/x=5\/x=8))=true by kernel_rfl) x F;exact abe h
theorem wG:(dh us false).length=1600:=by kernel_rfl
theorem Rf{i:Nat}{x:Int}(F:x= -1\/x=3\/x=5\/x=8):dn TE (Io i) 165 (.map (some 2279)) (.int .i64 x) false=some (.int .i64 (CQ x)):=by rcases F with rfl |rfl |rfl |rfl <;>kernel_rfl
theorem Qd(i:Nat):(Io i).get 2301=Bi i:=M.cY (by decide)
theorem p38(i:Nat):(Io i).get 2302=.cells [I 40,I 40,S 2301 1600 1600] 27 none:=by kernel_rfl
theorem q38(i:Nat):(Io i).get 1853=.cells [I 0,I 0,O] 27 none:=by kernel_rfl
theorem nN:ng.m.set 2301 rA=ng.m:=by kernel_rfl
theorem QQ:Bi 0=rA:=by unfold Bi rA;rw[abi,adW,abz,aa0]
theorem row_zero:ng.m=Io 0:=by have h:Io 0=ng.m.set 2301 rA:=congrArg (ng.m.set 2301) QQ;exact(h.trans nN).symm
theorem NY{i:Nat}(hi:i < 1600):∃x,(dh us false)[i]?=some x/\((((dh us false).take i).map CQ)++(dh us false).drop i)[i]?=some x:=by have F:=wG;refine⟨(dh us false)[i]'(by omega),Φ _,?_⟩;rw[aa1 (by rw[aaB,aap];omega),aaB,aap,aaW,show min i (dh us false).length=i by omega,acO,abC,Φ]
theorem row_step{i:Nat}{x:Int}(hi:i < 1600)(F:(dh us false)[i]?=some x):
  ((((dh us false).take i).map CQ)++(dh us false).drop i).set i (CQ x)=(((dh us false).take (i+1)).map CQ)++(dh us false).drop (i+1):=by
 have H:=wG
 rw[ac4 _ _ (by rw[aaB,aap];omega),aaB,aap,show min i (dh us false).length=i by omega,acO,abo,F,acx,abh,aa7]
 congr 1
 rw[ab6 (by omega:i < (dh us false).length)]
 rw[Φ (by omega)]at F
 rfl
theorem VI:sj TE (aI TE SX) d38 (tn Fe) ⟨.c 2 (some (.v (Q 1853))) (.c 8 (some (.v (.map (some 2279)))) (.c 11 (some (.v (Q 2302))) (.c 49 (some (.v (S 2301 1600 1600))) (.c 50 (some (.v (I 1600))) (.c 51 (some (.v (I 0))) .e))))),ng.m,1852⟩ (post TE Fe λvs m lo=>vs=[PX,I 0]/\m=ND/\lo=1852):=by
 rw[XX];dsimp only[aI];refine Lp.intro (γ:=Nat) (λi=>1600-i) (λi vs mm lo=>vs=[.int .i64 i]/\i<=1600/\mm=Io i/\lo=1852) 0 ⟨rfl,aaQ _,row_zero,rfl⟩ ?_;rintro i vs mm lo ⟨rfl,hi,rfl,rfl⟩;rw[aH,I,aX,ae,an];refine aq (λF=>?_) (λH=>?_)
 ·have F:i < 1600:=by
   have:(i:Int)< 1600:=by simpa using F
   omega
  obtain⟨x,hx,W⟩:=NY F
  have hc:=MF x (aac hx)
  have ix:ak TE 25 (S 2301 1600 1600) (.int .i64 i)=some (aeb 2301 i):=OH F
  rw[ix,ae]
  have ld:ah TE (Io i) 3 (aeb 2301 i)=some (.int .i64 x):=by rw[cd,aF (Qd i),aaA,W];rfl
  rw[ld,ae]
  have fa:af TE 27 (Q 2302) 2=some (aeb 2302 2):=by kernel_rfl
  rw[fa,ae]
  have lp:ah TE (Io i) 25 (aeb 2302 2)=some (S 2301 1600 1600):=by rw[lK,aF (p38 i)];rfl
  rw[lp,ae,Rf hc,ae,ix,ae]
  have hlen:((((dh us false).take i).map CQ)++(dh us false).drop i).length=1600:=by have hl:=wG;rw[aam,aaB,aap,aaK];omega
  rw[nK mO (Qd i) rfl (by rw[aaB,hlen];exact F) rfl,aE,aQ,ae,wrap64 (by omega) (by omega)]
  refine⟨i+1,by omega,rfl,by omega,?_,rfl⟩
  unfold Io
  rw[M.set_set]
  congr 1
  unfold Bi
  rw[<-row_step F hx,ady,<-ir (by rw[aaB,hlen];exact F)]
  rfl
 have a0:i=1600:=by
  have:¬(i:Int)< 1600:=by simpa using H
  omega
 subst a0
 have ld:ah TE (Io 1600) 27 (Q 2302)=some PX:=by rw[Q,kh,aJ (p38 1600) (by simp)];rfl
 rw[ld,ae,Q,nK uR (q38 1600) rfl (by decide) rfl,aE];have e:((Io 1600).set 1853 (.cells ([I 0,I 0,O].take 0++(cells PX++ [I 0,I 0,O].drop (0+(cells PX).length))) 27 none))=ND:=rfl;have zg:ND.get 1853=.cells [I 40,I 40,S 2301 1600 1600] 27 none:=M.cY (by show 1853 < 2303;decide);rw[e,kh,aJ zg (by simp)];exact⟨rfl,rfl,rfl⟩
theorem Xx:∃n0,∀n,n0<=n->bO TE SX n (.func 32) [WM] ur=some (.tuple #[PX,I 0],ND.wl 1852):=by
 have W:TE.fn.get 32=some Tryz.f32:=by kernel_rfl
 obtain⟨c,F,hc⟩:∃c,Tryz.f32.body=some c/\flat c=TO.take 10++flat d38:=by
  cases F:Tryz.f32.body with
  |none=>exact absurd F (by
   intro h;have:Tryz.f32.body.isSome=true:=by kernel_rfl
   rw[h]at this;cases this)
  |some c=>
   refine⟨c,rfl,?_⟩;have H:(match Tryz.f32.body with |some c=>flat c |none=> [])=TO.take 10++flat d38:=by kernel_rfl
   rw[F]at H;exact H
 obtain⟨vs,m',lo,⟨rfl,rfl,rfl⟩,_,n0,h⟩:=Cl.mixed (X:=SX) (E:=TE) (f:=32) (fn:=Tryz.f32) (c:=c) (d:=d38) (pre:=TO.take 10) (k:=300) (args:=[WM]) (m:=ur) (fr:=ng) (K:=.c 2 (some (.v (Q 1853))) (.c 8 (some (.v (.map (some 2279)))) (.c 11 (some (.v (Q 2302))) (.c 49 (some (.v (S 2301 1600 1600))) (.c 50 (some (.v (I 1600))) (.c 51 (some (.v (I 0))) .e)))))) (λargs m=>by kernel_rfl) W F (by kernel_rfl) hc (λn=>p0 n)
  (.cons (by kernel_rfl) (.cons (by kernel_rfl) (.cons (by kernel_rfl) (.cons (by kernel_rfl) (.cons (by kernel_rfl) (.cons (by kernel_rfl) .nil))))))
  (by decide) (by decide) VI
 refine⟨n0,λn hn=>?_⟩;exact h n hn 1852 (Ξ _)
def jz:Array Oper:=match L9.drop 12 with |.region _ ops _::_=>ops |_=> #[]
def Nz:Fr:=(fO TE (λ_ _ _=>none) jz (jz.toList.take 12) 0 Ec).getD Ec
theorem kA(call:aG):fO TE call jz (jz.toList.take 12) 0 Ec=some Nz:=by kernel_rfl
def UJ:Oper:=match jz.toList.drop 12 with |o::_=>o |[]=>default
theorem kB(call:aG):dt UJ.op TE call Nz.T {Nz.m with low:=Nz.m.n}=call (.func 32) [WM] ur:=by kernel_rfl
theorem kC(call:aG):fO TE call jz (jz.toList.drop 13) 13 {T:=put Nz.T UJ.dst (.tuple #[PX,I 0]),m:={ND.wl 1852 with low:=min Nz.m.low 1852}}=some OT:=by kernel_rfl
theorem c12{n:Nat}{call:aG}(h:call (.func 32) [WM] ur=some (.tuple #[PX,I 0],ND.wl 1852)):fX (bz TE call n) ((L9.drop 12).take 1) Ec=some (.normal,OT):=by
 have hi:(L9.drop 12).take 1=[.region 12 jz true]:=by kernel_rfl
 have H:bz TE call n (.region 12 jz true) Ec=(fO TE call jz jz.toList 0 Ec).map (Ex.normal,·):=rfl
 have F:=MJ (E:=TE) (call:=call) (l:=jz.toList) 0 12 0 (by kernel_rfl) (kA call);have W:jz.toList.drop (0+12)=UJ::jz.toList.drop 13:=by kernel_rfl
 have hw:bV jz Nz.T UJ=true:=by kernel_rfl
 rw[hi,fX,H];rw[aa0]at F;rw[F,W,fA,hw,cond_true,kB,h];dsimp only;have hb:Nat.ble Nz.m.n (ND.wl 1852).low=true:=by kernel_rfl
 rw[hb];simp only[aaM,cond_true];have:=kC call;rw[show(0+12+1)=13 from rfl];rw[show fO TE call jz (jz.toList.drop 13) 13 {T:=put Nz.T UJ.dst (.tuple #[PX,I 0]),m:={ND.wl 1852 with low:=min Nz.m.low (ND.wl 1852).low}}=some OT from this];rfl
theorem run:∃n,bO TE SX n (.func 8) [] {st:=.e,n:=3,low:=3}=some (aeh,{st:=.e,n:=3,low:=3}):=by
 obtain⟨F,W⟩:=Xx;refine⟨F+300+1,?_⟩;have hX:SX (.func 8) [] {st:=.e,n:=3,low:=3}=none:=by kernel_rfl
 have hf:TE.fn.get 8=some Tryz.f8:=by kernel_rfl
 have hr:result? TE Tryz.f8 OS.T OS.m=some aeh:=by kernel_rfl
 have hn:Nat.ble ([]:aee).length Tryz.f8.ntmps=true:=by kernel_rfl
 have hl:Nat.ble 3 OS.m.low=true:=by kernel_rfl
 obtain⟨c,H,hc⟩:∃c,Tryz.f8.body=some c/\flat c=L9:=by
  cases H:Tryz.f8.body with
  |none=>exact absurd H (by
   intro h;have:Tryz.f8.body.isSome=true:=by kernel_rfl
   rw[h]at this;cases this)
  |some c=>exact⟨c,rfl,by unfold L9;rw[H]⟩
 refine Ar (n:=F+300) hX hf H hn ?_ hr rfl hl;rw[mC,hc];show fX (X9 F) L9 fr0=_;have e0:=pw (f:=X9 F) (l:=L9) 0 5 (c0 F);have e2:=pw (f:=X9 F) (l:=L9) 5 1 (c5 F);have e3:=pw (f:=X9 F) (l:=L9) 6 6 (c6 F);have e5:=pw (f:=X9 F) (l:=L9) 12 1 (c12 (W _ (by omega)));rw[aa0]at e0;rw[e0,e2,e3,e5];exact c13 F
end qL
end Go.Proofs.YtmdfgncoekfgdaaGreatDoor
