/- The law DrawActs: the contract .. -/
import Derived.Test.YtmdfgncoekfgdaaGreatDoorG7J
import Derived.Test.YtmdfgncoekfgdaaGreatDoorG19J
set_option maxRecDepth 100000
namespace Go.Proofs.YtmdfgncoekfgdaaGreatDoor.mE
open Go.D Go.ChangeShapes Go.WideShapes Go.ChangeAt Go.RowKit
theorem zH:Tryz.f6.params= #[57,85]:=by kernel_rfl
theorem MV(H:Type)(enc:TypeId×aed->H)(W:World)(base:Nat)(args:Array aed)(ds gs:List (DataW H))(before:List MemPlace) (F:∀(j:Nat) t v,Tryz.f6.params[j]?=some t->args[j]?=some v->Value.okWide Tryz.prog W .any base t v)
  (hW:DataW.Whole enc Tryz.prog Tryz.f6.params.toList Rows.drawActsSpec.vars false W args.toList ds gs before) (k0:W.ShapedOpen Tryz.prog):
  Calls Tryz.prog 6 args W λe W'=>∃v,e=.returned v/\Rows.drawActsSpec.post enc Tryz.prog Tryz.f6 false true false false W args v W':=by
 have i0:=hW;obtain⟨p,q,j0,hV,rfl,u0,z0⟩:=hW;have hA:DataW.TrodAll enc Tryz.prog W 0 (λ_=>true) true Tryz.f6.params.toList args.toList ds p:=j0;rw[zH]at hA F;obtain⟨v0,A0,d0,B0,p0,q0,e0,rfl,rfl,h0,l0⟩:=trodAll_cons hA;obtain⟨v1,C0,d1,D0,p1,q1,rfl,rfl,rfl,h1,o0⟩:=trodAll_cons l0;obtain⟨rfl,rfl,rfl⟩:=trodAll_nil o0;obtain rfl:args= #[v0,v1]:=abl e0;obtain⟨rfl,rfl⟩:=trodVars_none hV;clear j0;have g0:∀x∈p0++(p1++([])),x.block < W.heap.size:=λx hx=>i0.lt x (by simpa using hx);have b0:=Lk k0;obtain⟨r0,vb,vk,va,rfl,⟨lb,sb,eb,yb⟩,lk,sk,ek,yk⟩:=DL (F 0 57 v0 rfl rfl) h0;obtain⟨r1,a0,a1,a2,a3,a4,a5,rfl,q0,q1,q2,q3,q4,q5⟩:=QO (F 1 85 v1 rfl rfl) h1;have s0:=Cx VR TK TL TJ PB (m:=fy W) (by rw[sw];exact b0) (va:=va) (.inr sb) yb eb (.inr sk) yk ek q0 q1 q2 q3 q4 q5
 refine(CE VQ b0 s0 (args':= #[_,_]) (.cons r0 (.cons r1 .nil))).mono λe' W' ⟨he,hb⟩=>?_;subst he;have hs:∀x∈p0++(p1++([])),(λb=>decide (b < W.heap.size)) x.block=true:=λx hx=>by simpa using g0 x hx
 refine⟨_,rfl,_,_,_,[],p0++(p1++([])),[],i0,trodAll_cons_mk (shut_bool QH _) trodAll_mk0,?_,rfl,hb.frame _,λh=>by cases h⟩;rw[zH];exact(trodAll_cons_mk (NV hb h0 (λx hx=>g0 x (by simp[hx])) _ λx hx=>hs x (by simp[hx])) (trodAll_cons_mk (NU hb h1 (λx hx=>g0 x (by simp[hx])) _ λx hx=>hs x (by simp[hx])) trodAll_mk0))
theorem Lb(os:Os):laidMet Tryz.prog Rows.drawActsRow.laid ((sO os).forCall (λ_ _=>0) ⟨#[], #[.agg #[aeg,aeg,aeg],.agg #[.int .i64 0,.int .i64 0,.int .i64 0,.int .i64 0,.int .i64 0,.int .i64 0]],[]⟩).memory:=
 laidMet_of_run' 8 (by kernel_rfl) (by kernel_rfl)
theorem reads(os:Os){H:Type}(enc:TypeId×aed->H):∃ds places,DataW.whole enc Tryz.prog ((sO os).forCall (λ_ _=>0) ⟨#[], #[.agg #[aeg,aeg,aeg],.agg #[.int .i64 0,.int .i64 0,.int .i64 0,.int .i64 0,.int .i64 0,.int .i64 0]],[]⟩).memory Tryz.f6.params.toList Rows.drawActsSpec.vars false ((#[.agg #[aeg,aeg,aeg],.agg #[.int .i64 0,.int .i64 0,.int .i64 0,.int .i64 0,.int .i64 0,.int .i64 0]]:Array aed)).toList 8=some (ds,[],places):=
 ⟨[.agg [.nil,.nil,.nil],.agg [.lit (.int .i64 0),.lit (.int .i64 0),.lit (.int .i64 0),.lit (.int .i64 0),.lit (.int .i64 0),.lit (.int .i64 0)]],[],by kernel_rfl⟩
theorem lifted(os:Os)(started:os.Started)(H:Type)(enc:TypeId×aed->H)(F:Stop.Interp):
  ReturnsInHanded {} Tryz.checked os 6 .any ((OpenSpec.ofChange Rows.drawActsSpec).preRow enc Tryz.prog Tryz.f6 Rows.drawActsRow.domain false Rows.drawActsRow.laid) (((OpenSpec.ofChange Rows.drawActsSpec).at F).post enc Tryz.prog Tryz.f6 false true false false):=by
 obtain⟨ds,places,hx⟩:=reads os enc
 refine returnsInHanded_of_row (C:=Tryz.checked) (s:=OpenSpec.ofChange Rows.drawActsSpec) zI started (by kernel_rfl) Tryz.func6
  (witness_row_at (enc:=enc) (C:=Tryz.checked) false (sO os) #[.agg #[aeg,aeg,aeg],.agg #[.int .i64 0,.int .i64 0,.int .i64 0,.int .i64 0,.int .i64 0,.int .i64 0]] rfl (by kernel_rfl) (by kernel_rfl) (by kernel_rfl)
   (OpenSpec.preRow_of_cond 8 hx (by kernel_rfl) (λk hk=>by cases hk) (by kernel_rfl) (Lb os))) ?_
 intro W base args ds gs before a0 hW _ _ _ _ b0 _;exact MV H enc W base args ds gs before a0 hW b0
end Go.Proofs.YtmdfgncoekfgdaaGreatDoor.mE
