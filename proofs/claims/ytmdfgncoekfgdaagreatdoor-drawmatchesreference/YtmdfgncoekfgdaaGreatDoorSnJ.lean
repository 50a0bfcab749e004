/- sane() returns true, and leaves the store as it was. -/
import Derived.Test.YtmdfgncoekfgdaaGreatDoorSn1J
import Derived.Test.YtmdfgncoekfgdaaGreatDoorSn3J
import Derived.Test.YtmdfgncoekfgdaaGreatDoorSn4J
import Derived.Test.YtmdfgncoekfgdaaGreatDoorSn5J
import Derived.Test.YtmdfgncoekfgdaaGreatDoorSn6J
import Derived.Test.YtmdfgncoekfgdaaGreatDoorSwJ
import Derived.Test.YtmdfgncoekfgdaaGreatDoorG7J
namespace Go.D
open Go
theorem Tr.set_set{α:Type}(x y:α):∀(t:Tr α) (i:Nat),(t.set i x).set i y=t.set i y
 |.e,i=>by
  rw[Tr.wZ,Tr.wZ]
  exact nn x y i i (Nat.le_refl _)
 |.n v l r,0=>rfl
 |.n v l r,i+1=>by
  rw[Tr.fS,Tr.fS]
  cases hb:Nat.beq (i%2) 0 with
  |true=>simp only[cond_true,Tr.fS,hb,Tr.set_set x y l]
  |false=>simp only[cond_false,Tr.fS,hb,Tr.set_set x y r]
where
 nn {α:Type} (x y:α):∀(f i:Nat),i<=f->(Tr.single x f i).set i y=Tr.single y f i
  |0,i,h=>by
   obtain rfl:=Nat.le_zero.1 h
   rfl
  |f+1,0,h=>rfl
  |f+1,i+1,h=>by
   have e:∀z:α,Tr.single z (f+1) (i+1)=bif Nat.beq (i%2) 0 then .n none (Tr.single z f (i/2)) .e else .n none .e (Tr.single z f (i/2)):=fun z=>rfl
   rw[e,e]
   cases hb:Nat.beq (i%2) 0 with
   |true=>simp only[cond_true,Tr.fS,hb,nn x y f (i/2) (by omega)]
   |false=>simp only[cond_false,Tr.fS,hb,nn x y f (i/2) (by omega)]
theorem M.set_set{m:M}{b:Nat}{o o':Ob}:(m.set b o).set b o'=m.set b o':=by
 unfold M.set
 dsimp only
 rw[Tr.set_set,Nat.min_assoc,Nat.min_self]
theorem Kn.nil{T:Tr Value}:Kn .e T:=fun t v h=>by cases h
theorem Kn.cons{T:Tr Value}{K:KT}{t:Nat}{x:KV}(h:T.get t=some x.val)(hK:Kn K T):Kn (.c t (some x) K) T:=by
 intro i v hv
 rw[KT.GV]at hv
 split at hv
 ·rename_i e
  cases hv
  rw[e];exact h
 ·exact hK i v hv
end Go.D
namespace Go.Proofs.YtmdfgncoekfgdaaGreatDoor
open Go Go.D Go.Proofs
namespace nS
set_option maxRecDepth 1000000
noncomputable def d38:Code:=.seq (Nj.getD 10 .skip) (.seq (Nj.getD 11 .skip) (Nj.getD 12 .skip))
noncomputable def Bx:List ResultVar:=Tryz.f32.results.toList
theorem QQ{W:Words}{p2 mp p11 sl n i:Value}{m:M}{lo:Nat}{R:List Value->M->Nat->Prop}:
  ta TE W d38 (Bw Bx) ⟨.c 2 (some (.v p2)) (.c 8 (some (.v mp)) (.c 11 (some (.v p11)) (.c 49 (some (.v sl)) (.c 50 (some (.v n)) (.c 51 (some (.v i)) .e))))),m,lo⟩ (post TE Bx R)=
(W.Lp (fun P1 vs2 m3 lo4=>W.un vs2 fun v5 r6=>(W.ah (aq TE .lss 3 v5 n) fun v7=>(aW v7
(W.ah (ai TE 25 sl v5) fun v8=>(W.ah (ag TE m3 3 v8) fun v9=>(W.ah (ae TE 27 p11 2) fun v10=>(W.ah (ag TE m3 25 v10) fun v11=>(W.ah (dL TE m3 165 mp v9 false) fun v12=>(W.ah (ai TE 25 v11 v5) fun v13=>(W.aK (aw TE m3 3 v13 v12) fun m14 b15=>(W.ah (aq TE .add 3 v5 (.int .i64 1)) fun v16=>(P1 [v16] m14 (min lo4 b15))))))))))
(W.ah (ag TE m3 27 p11) fun v17=>(W.aK (aw TE m3 27 p2 v17) fun m18 b19=>(ah (ag TE m18 27 p2) fun w=>R [w,(.int .i64 0)] m18 (min lo4 b19))))))) [i] m lo):=by kernel_rfl
noncomputable def vv:M:=⟨HO,1852,1852⟩
def PQ:Value:=.agg #[S 10 2 3,O,S 1851 1 1,O]
def Ko:Value:=.agg #[I 40,I 40,S 2301 1600 1600]
noncomputable def xH(i:Nat):Ob:=.cells (((((cJ us false).take i).map zt)++(cJ us false).drop i).map (.int .i64)) 3 (some 1)
noncomputable def El(i:Nat):M:=kT.m.set 2301 (xH i)
noncomputable def IF:M:=(El 1600).set 1853 (.cells [I 40,I 40,S 2301 1600 1600] 27 none)
theorem HR:∀x∈cJ us false,x= -1\/x=3\/x=5\/x=8:=by
 intro x hx
 have h:=List.all_eq_true.1 (show(cJ us false).all (fun x=>decide (x= -1\/x=3\/x=5\/x=8))=true by kernel_rfl) x hx
 exact of_decide_eq_true h
theorem sH:(cJ us false).length=1600:=by kernel_rfl
theorem LC{i:Nat}{x:Int}(hx:x= -1\/x=3\/x=5\/x=8):dL TE (El i) 165 (.map (some 2279)) (.int .i64 x) false=some (.int .i64 (zt x)):=by
 rcases hx with rfl |rfl |rfl |rfl <;>kernel_rfl
theorem Kv(i:Nat):(El i).get 2301=xH i:=M.dr (by decide)
theorem VJ(i:Nat):(El i).get 2302=.cells [I 40,I 40,S 2301 1600 1600] 27 none:=by kernel_rfl
theorem Yj(i:Nat):(El i).get 1853=.cells [I 0,I 0,O] 27 none:=by kernel_rfl
theorem lJ:kT.m.set 2301 rA=kT.m:=by kernel_rfl
theorem Lr:xH 0=rA:=by
 unfold xH rA
 rw[List.take_zero,List.map_nil,List.nil_append,List.drop_zero]
theorem FX:kT.m=El 0:=by
 have h:El 0=kT.m.set 2301 rA:=congrArg (kT.m.set 2301) Lr
 exact(h.trans lJ).symm
theorem Jc{i:Nat}(hi:i < 1600):∃x,(cJ us false)[i]?=some x/\((((cJ us false).take i).map zt)++(cJ us false).drop i)[i]?=some x:=by
 have hl:=sH
 refine⟨(cJ us false)[i]'(by omega),List.getElem?_eq_getElem _,?_⟩
 rw[List.getElem?_append_right (by rw[List.length_map,List.length_take];omega),List.length_map,List.length_take,List.getElem?_drop,show min i (cJ us false).length=i by omega,Nat.sub_self,Nat.add_zero,List.getElem?_eq_getElem]
theorem FY{i:Nat}{x:Int}(hi:i < 1600)(hx:(cJ us false)[i]?=some x):
  ((((cJ us false).take i).map zt)++(cJ us false).drop i).set i (zt x)=(((cJ us false).take (i+1)).map zt)++(cJ us false).drop (i+1):=by
 have hl:=sH
 rw[List.set_append_right _ _ (by rw[List.length_map,List.length_take];omega),List.length_map,List.length_take,show min i (cJ us false).length=i by omega,Nat.sub_self,List.take_add_one,hx,Option.toList_some,List.map_append,List.append_assoc]
 congr 1
 rw[List.drop_eq_getElem_cons (by omega:i < (cJ us false).length)]
 rw[List.getElem?_eq_getElem (by omega)]at hx
 rfl
theorem O5:ta TE (aI TE SX) d38 (Bw Bx) ⟨.c 2 (some (.v (Q 1853))) (.c 8 (some (.v (.map (some 2279)))) (.c 11 (some (.v (Q 2302))) (.c 49 (some (.v (S 2301 1600 1600))) (.c 50 (some (.v (I 1600))) (.c 51 (some (.v (I 0))) .e))))),kT.m,1852⟩
  (post TE Bx fun vs m lo=>vs=[Ko,I 0]/\m=IF/\lo=1852):=by
 rw[QQ];dsimp only[aI]
 refine Lp.intro (γ:=Nat) (fun i=>1600-i) (fun i vs mm lo=>vs=[.int .i64 i]/\i<=1600/\mm=El i/\lo=1852) 0 ⟨rfl,Nat.zero_le _,FX,rfl⟩ ?_
 rintro i vs mm lo ⟨rfl,hi,rfl,rfl⟩
 rw[aA,I,aH,aa,aj]
 refine ak (fun hlt=>?_) (fun hge=>?_)
 ·have hlt:i < 1600:=by
   have:(i:Int)< 1600:=by simpa using hlt
   omega
  obtain⟨x,hx,hx'⟩:=Jc hlt
  have hc:=HR x (List.mem_of_getElem? hx)
  have ix:ai TE 25 (S 2301 1600 1600) (.int .i64 i)=some (.pointer (some ⟨2301,i,none⟩)):=BW hlt
  rw[ix,aa]
  have ld:ag TE (El i) 3 (.pointer (some ⟨2301,i,none⟩))=some (.int .i64 x):=by
   rw[bu,av (Kv i),List.getElem?_map,hx'];rfl
  rw[ld,aa]
  have fa:ae TE 27 (Q 2302) 2=some (.pointer (some ⟨2302,2,none⟩)):=by kernel_rfl
  rw[fa,aa]
  have lp:ag TE (El i) 25 (.pointer (some ⟨2302,2,none⟩))=some (S 2301 1600 1600):=by
   rw[ez,av (VJ i)];rfl
  rw[lp,aa,LC hc,aa,ix,aa]
  have hlen:((((cJ us false).take i).map zt)++(cJ us false).drop i).length=1600:=by
   have hl:=sH
   rw[List.length_append,List.length_map,List.length_take,List.length_drop];omega
  rw[lE kf (Kv i) rfl (by rw[List.length_map,hlen];exact hlt) rfl,ar,aG,aa,wrap64 (by omega) (by omega)]
  refine⟨i+1,by omega,rfl,by omega,?_,rfl⟩
  unfold El
  rw[M.set_set]
  congr 1
  unfold xH
  rw[<-FY hlt hx,List.map_set,<-gC (by rw[List.length_map,hlen];exact hlt)]
  rfl
 ·have hi':i=1600:=by
   have:¬(i:Int)< 1600:=by simpa using hge
   omega
  subst hi'
  have ld:ag TE (El 1600) 27 (Q 2302)=some Ko:=by
   rw[Q,bO,aE (VJ 1600) (by simp)];rfl
  rw[ld,aa,Q,lE dw (Yj 1600) rfl (by decide) rfl,ar]
  have e:((El 1600).set 1853 (.cells ([I 0,I 0,O].take 0++(cells Ko++ [I 0,I 0,O].drop (0+(cells Ko).length))) 27 none))=IF:=rfl
  have zg:IF.get 1853=.cells [I 40,I 40,S 2301 1600 1600] 27 none:=M.dr (by show 1853 < 2303;decide)
  rw[e,bO,aE zg (by simp)]
  exact⟨rfl,rfl,rfl⟩
theorem QA:∃n0,∀n,n0<=n->bN TE SX n (.func 32) [PQ] vv=some (.tuple #[Ko,I 0],IF.wl 1852):=by
 have hf:TE.fn.get 32=some Tryz.f32:=by kernel_rfl
 obtain⟨c,hb,hc⟩:∃c,Tryz.f32.body=some c/\flat c=Nj.take 10++flat d38:=by
  cases hb:Tryz.f32.body with
  |none=>exact absurd hb (by
                 intro h;have:Tryz.f32.body.isSome=true:=by kernel_rfl
                 rw[h]at this;cases this)
  |some c=>
   refine⟨c,rfl,?_⟩
   have h1:(match Tryz.f32.body with |some c=>flat c |none=> [])=Nj.take 10++flat d38:=by kernel_rfl
   rw[hb]at h1
   exact h1
 obtain⟨vs,m',lo,⟨rfl,rfl,rfl⟩,_,n0,h⟩:=Cl.mixed (X:=SX) (E:=TE) (f:=32) (fn:=Tryz.f32) (c:=c) (d:=d38) (pre:=Nj.take 10) (k:=300) (args:=[PQ]) (m:=vv) (fr:=kT)
  (K:=.c 2 (some (.v (Q 1853))) (.c 8 (some (.v (.map (some 2279)))) (.c 11 (some (.v (Q 2302))) (.c 49 (some (.v (S 2301 1600 1600))) (.c 50 (some (.v (I 1600))) (.c 51 (some (.v (I 0))) .e))))))
  (fun args m=>by kernel_rfl) hf hb (by kernel_rfl) hc (fun n=>p0 n)
  (.cons (by kernel_rfl) (.cons (by kernel_rfl) (.cons (by kernel_rfl) (.cons (by kernel_rfl) (.cons (by kernel_rfl) (.cons (by kernel_rfl) .nil))))))
  (by decide) (by decide) O5
 refine⟨n0,fun n hn=>?_⟩
 exact h n hn 1852 (Nat.le_refl _)
noncomputable def ia:Array Oper:=match L9.drop 12 with |.region _ ops _::_=>ops |_=> #[]
noncomputable def ID:Fr:=(eZ TE (fun _ _ _=>none) ia (ia.toList.take 12) 0 Ax).getD Ax
theorem kA(call:aF):eZ TE call ia (ia.toList.take 12) 0 Ax=some ID:=by kernel_rfl
noncomputable def NY:Oper:=match ia.toList.drop 12 with |o::_=>o |[]=>default
theorem kB(call:aF):cS NY.op TE call ID.T {ID.m with low:=ID.m.n}=call (.func 32) [PQ] vv:=by kernel_rfl
theorem kC(call:aF):eZ TE call ia (ia.toList.drop 13) 13 {T:=put ID.T NY.dst (.tuple #[Ko,I 0]),m:={IF.wl 1852 with low:=min ID.m.low 1852}}=some Jv:=by kernel_rfl
theorem Yo{n:Nat}{call:aF}(h:call (.func 32) [PQ] vv=some (.tuple #[Ko,I 0],IF.wl 1852)):eW (aZ TE call n) ((L9.drop 12).take 1) Ax=some (.normal,Jv):=by
 have hi:(L9.drop 12).take 1=[.region 12 ia true]:=by kernel_rfl
 have hd:aZ TE call n (.region 12 ia true) Ax=(eZ TE call ia ia.toList 0 Ax).map (Ex.normal,·):=rfl
 have h0:=HV (E:=TE) (call:=call) (l:=ia.toList) 0 12 0 (by kernel_rfl) (kA call)
 have ho:ia.toList.drop (0+12)=NY::ia.toList.drop 13:=by kernel_rfl
 have hw:bT ia ID.T NY=true:=by kernel_rfl
 rw[hi,eW,hd]
 rw[List.drop_zero]at h0
 rw[h0,ho,eY,hw,cond_true,kB,h]
 dsimp only
 have hb:Nat.ble ID.m.n (IF.wl 1852).low=true:=by kernel_rfl
 rw[hb]
 simp only[Bool.true_or,cond_true]
 have:=kC call
 rw[show(0+12+1)=13 from rfl]
 rw[show eZ TE call ia (ia.toList.drop 13) 13 {T:=put ID.T NY.dst (.tuple #[Ko,I 0]),m:={IF.wl 1852 with low:=min ID.m.low (IF.wl 1852).low}}=some Jv from this]
 rfl
theorem run:∃n,bN TE SX n (.func 8) [] {st:=.e,n:=3,low:=3}=some (.bool true,{st:=.e,n:=3,low:=3}):=by
 obtain⟨n0,hph⟩:=QA
 refine⟨n0+300+1,?_⟩
 have hX:SX (.func 8) [] {st:=.e,n:=3,low:=3}=none:=by kernel_rfl
 have hf:TE.fn.get 8=some Tryz.f8:=by kernel_rfl
 have hr:result? TE Tryz.f8 Ju.T Ju.m=some (.bool true):=by kernel_rfl
 have hn:Nat.ble ([]:List Value).length Tryz.f8.ntmps=true:=by kernel_rfl
 have hl:Nat.ble 3 Ju.m.low=true:=by kernel_rfl
 obtain⟨c,hb,hc⟩:∃c,Tryz.f8.body=some c/\flat c=L9:=by
  cases hb:Tryz.f8.body with
  |none=>exact absurd hb (by
                 intro h;have:Tryz.f8.body.isSome=true:=by kernel_rfl
                 rw[h]at this;cases this)
  |some c=>exact⟨c,rfl,by unfold L9;rw[hb]⟩
 refine wj (n:=n0+300) hX hf hb hn ?_ hr rfl hl
 rw[ku,hc]
 show eW (X9 n0) L9 VN=_
 have e0:=mF (f:=X9 n0) (l:=L9) 0 5 (c0 n0)
 have e2:=mF (f:=X9 n0) (l:=L9) 5 1 (c5 n0)
 have e3:=mF (f:=X9 n0) (l:=L9) 6 6 (c6 n0)
 have e5:=mF (f:=X9 n0) (l:=L9) 12 1 (Yo (hph _ (by omega)))
 rw[List.drop_zero]at e0
 rw[e0,e2,e3,e5]
 exact Yn n0
end nS
end Go.Proofs.YtmdfgncoekfgdaaGreatDoor
