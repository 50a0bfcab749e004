/- The law EvidenceRepairs: the .. -/
import Derived.Test.YtigpcbodmjjaiaaGreatDoorG16J
set_option maxRecDepth 100000
namespace Go.Proofs.YtigpcbodmjjaiaaGreatDoor.eG
open Go.D Go.ChangeShapes Go.WideShapes Go.ChangeAt Go.RowKit
theorem Bz:Tryz.f3.params= #[25,22,26,23,3]:=by kernel_rfl
theorem Pu(H:Type)(enc:TypeId×Φ->H)(W:World)(base:Nat)(args:Array Φ)(ds gs:List (DataW H))(before:List MemPlace) (a0:∀(j:Nat) t v,Tryz.f3.params[j]?=some t->args[j]?=some v->Value.okWide Tryz.prog W .any base t v)
  (hW:DataW.Whole enc Tryz.prog Tryz.f3.params.toList Rows.evidenceRepairsSpec.vars false W args.toList ds gs before) (k0:W.ShapedOpen Tryz.prog):
  Calls Tryz.prog 3 args W λe W'=>∃v,e=.returned v/\Rows.evidenceRepairsSpec.post enc Tryz.prog Tryz.f3 false true false false W args v W':=by
 have i0:=hW;obtain⟨p,q,j0,hV,rfl,y0,z0⟩:=hW;have hA:DataW.TrodAll enc Tryz.prog W 0 (λ_=>true) true Tryz.f3.params.toList args.toList ds p:=j0;rw[Bz]at hA a0;obtain⟨v0,A0,d0,B0,p0,q0,g0,rfl,rfl,h0,l0⟩:=trodAll_cons hA;obtain⟨v1,C0,d1,D0,p1,q1,rfl,rfl,rfl,h1,m0⟩:=trodAll_cons l0;obtain⟨v2,E0,d2,F0,p2,q2,rfl,rfl,rfl,h2,n0⟩:=trodAll_cons m0;obtain⟨v3,G0,d3,H0,p3,q3,rfl,rfl,rfl,h3,o0⟩:=trodAll_cons n0;obtain⟨v4,I0,d4,J0,p4,q4,rfl,rfl,rfl,h4,s0⟩:=trodAll_cons o0;obtain⟨rfl,rfl,rfl⟩:=trodAll_nil s0;obtain rfl:args= #[v0,v1,v2,v3,v4]:=Tu g0;obtain⟨rfl,rfl⟩:=trodVars_none hV;clear j0;have b0:∀x∈p0++(p1++(p2++(p3++(p4++([]))))),x.block<W.heap.size:=λx hx=>i0.lt x (by simpa using hx);have e0:=Oj k0;obtain⟨r0,vb,vk,va,rfl,oa,⟨lb,sb,eb,yb⟩,lk,sk,ek,yk⟩:=DF (a0 0 25 v0 rfl rfl) h0;have⟨r1,l1,s1,e1,y1⟩:=Jn (a0 1 22 v1 rfl rfl) h1;have⟨r2,l2,s2,e2,y2⟩:=Ts (a0 2 26 v2 rfl rfl) h2;have⟨r3,l3,s3,e3,y3⟩:=Ol (a0 3 23 v3 rfl rfl) h3;obtain⟨r4,z4,rfl,y4⟩:=T3 (a0 4 3 v4 rfl rfl) h4;have u0:=acM (m:=ee W) aeT Wu (λm1 h=>R2 m1 (IV (by rw[tW];exact e0) h)) sb yb eb (.inr sk) yk ek oa s1 y1 e1 (.inr s2) y2 e2 (.inr s3) y3 e3 y4;refine(Es YL e0 u0 (args':= #[_,v1,v2,v3,_]) (.cons r0 (.cons r1 (.cons r2 (.cons r3 (.cons r4 .nil)))))).mono λe' W' ⟨he,hb⟩=>?_;subst he;have hs:∀x∈p0++(p1++(p2++(p3++(p4++([]))))),(λb=>decide (b<W.heap.size)) x.block:=λx hx=>by simpa using b0 x hx
 refine⟨_,rfl,_,_,_,[],p0++(p1++(p2++(p3++(p4++([]))))),[],i0,trodAll_cons_mk (shut_bool Ta _) trodAll_mk0,?_,rfl,hb.frame _,λh=>by cases h⟩;rw[Bz];exact(trodAll_cons_mk (abc hb h0 (λx hx=>b0 x (by simp[hx])) _ λx hx=>hs x (by simp[hx])) (trodAll_cons_mk (adN hb h1 (λx hx=>b0 x (by simp[hx])) _ λx hx=>hs x (by simp[hx])) (trodAll_cons_mk (Qr hb h2 (λx hx=>b0 x (by simp[hx])) _ λx hx=>hs x (by simp[hx])) (trodAll_cons_mk (Qu hb h3 (λx hx=>b0 x (by simp[hx])) _ λx hx=>hs x (by simp[hx])) (trodAll_cons_mk (To hb h4 (λx hx=>b0 x (by simp[hx])) _ λx hx=>hs x (by simp[hx])) trodAll_mk0)))))
theorem NW(os:Os):laidMet Tryz.prog Rows.evidenceRepairsRow.laid ((uJ os).forCall (λ_ _=>0) ⟨#[], #[.agg #[YM,YM,YM],YM,YM,YM,YR 0],[]⟩).memory:=
 laidMet_of_run' 8 (by kernel_rfl) (by kernel_rfl)
theorem reads(os:Os){H:Type}(enc:TypeId×Φ->H):∃ds places,DataW.whole enc Tryz.prog ((uJ os).forCall (λ_ _=>0) ⟨#[], #[.agg #[YM,YM,YM],YM,YM,YM,YR 0],[]⟩).memory Tryz.f3.params.toList Rows.evidenceRepairsSpec.vars false ((#[.agg #[YM,YM,YM],YM,YM,YM,YR 0]:Array Φ)).toList 8=some (ds,[],places):=
 ⟨[.agg [.nil,.nil,.nil],.nil,.nil,.nil,.lit (.int .i64 0)],[],by kernel_rfl⟩
theorem lifted(os:Os)(started:os.Started)(H:Type)(enc:TypeId×Φ->H)(F:Stop.Interp):
  ReturnsInHanded {} Tryz.checked os 3 .any ((OpenSpec.ofChange Rows.evidenceRepairsSpec).preRow enc Tryz.prog Tryz.f3 Rows.evidenceRepairsRow.domain false Rows.evidenceRepairsRow.laid) (((OpenSpec.ofChange Rows.evidenceRepairsSpec).at F).post enc Tryz.prog Tryz.f3 false true false false):=by
 have⟨ds,places,hx⟩:=reads os enc
 refine returnsInHanded_of_row (C:=Tryz.checked) (s:=OpenSpec.ofChange Rows.evidenceRepairsSpec) BA started (by kernel_rfl) Tryz.func3
  (witness_row_at (enc:=enc) (C:=Tryz.checked) false (uJ os) #[.agg #[YM,YM,YM],YM,YM,YM,YR 0] rfl (by kernel_rfl) (by kernel_rfl) (by kernel_rfl)
   (OpenSpec.preRow_of_cond 8 hx (by kernel_rfl) (λk hk=>by cases hk) (by kernel_rfl) (NW os))) ?_
 intro W base args ds gs before a0 hW _ _ _ _ b0 _;exact Pu H enc W base args ds gs before a0 hW b0
end Go.Proofs.YtigpcbodmjjaiaaGreatDoor.eG
