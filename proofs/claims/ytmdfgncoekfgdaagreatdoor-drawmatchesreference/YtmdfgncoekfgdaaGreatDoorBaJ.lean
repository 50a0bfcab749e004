/- The law DrawMatchesReference: the contract of the call, and its lift. -/
import Derived.Test.YtmdfgncoekfgdaaGreatDoorG7J
import Derived.Test.YtmdfgncoekfgdaaGreatDoorG18J
namespace Go.Proofs.YtmdfgncoekfgdaaGreatDoor.cO
open Go.D Go.ChangeShapes Go.WideShapes Go.ChangeAt Go.RowKit
theorem uV:Tryz.f3.params= #[22,23,3,4,24,25,25,27,3,5,9]:=by kernel_rfl
set_option maxRecDepth 100000 in
theorem Ib(H:Type)(enc:TypeId×Value->H)(W:World)(base:Nat)(args:Array Value)(ds gs:List (DataW H))(before:List MemPlace)
  (hval:∀(j:Nat) t v,Tryz.f3.params[j]?=some t->args[j]?=some v->Value.okWide Tryz.prog W .any base t v)
  (hW:DataW.Whole enc Tryz.prog Tryz.f3.params.toList Rows.drawMatchesReferenceSpec.vars false W args.toList ds gs before) (hsh:W.ShapedOpen Tryz.prog):
  Calls Tryz.prog 3 args W fun e W'=>∃v,e=.returned v/\Rows.drawMatchesReferenceSpec.post enc Tryz.prog Tryz.f3 false true false false W args v W':=by
 have hW':=hW
 obtain⟨p,q,hA0,hV,rfl,hfz,hnd⟩:=hW
 have hA:DataW.TrodAll enc Tryz.prog W 0 (fun _=>true) true Tryz.f3.params.toList args.toList ds p:=hA0
 rw[uV]at hA hval
 obtain⟨v0,vs0,d0,ds0,p0,q0,hargs,rfl,rfl,h0,hA1⟩:=trodAll_cons hA
 obtain⟨v1,vs1,d1,ds1,p1,q1,rfl,rfl,rfl,h1,hA2⟩:=trodAll_cons hA1
 obtain⟨v2,vs2,d2,ds2,p2,q2,rfl,rfl,rfl,h2,hA3⟩:=trodAll_cons hA2
 obtain⟨v3,vs3,d3,ds3,p3,q3,rfl,rfl,rfl,h3,hA4⟩:=trodAll_cons hA3
 obtain⟨v4,vs4,d4,ds4,p4,q4,rfl,rfl,rfl,h4,hA5⟩:=trodAll_cons hA4
 obtain⟨v5,vs5,d5,ds5,p5,q5,rfl,rfl,rfl,h5,hA6⟩:=trodAll_cons hA5
 obtain⟨v6,vs6,d6,ds6,p6,q6,rfl,rfl,rfl,h6,hA7⟩:=trodAll_cons hA6
 obtain⟨v7,vs7,d7,ds7,p7,q7,rfl,rfl,rfl,h7,hA8⟩:=trodAll_cons hA7
 obtain⟨v8,vs8,d8,ds8,p8,q8,rfl,rfl,rfl,h8,hA9⟩:=trodAll_cons hA8
 obtain⟨v9,vs9,d9,ds9,p9,q9,rfl,rfl,rfl,h9,hA10⟩:=trodAll_cons hA9
 obtain⟨v10,vs10,d10,ds10,p10,Lt,rfl,rfl,rfl,h10,hA11⟩:=trodAll_cons hA10
 obtain⟨rfl,rfl,rfl⟩:=trodAll_nil hA11
 obtain rfl:args= #[v0,v1,v2,v3,v4,v5,v6,v7,v8,v9,v10]:=Array.ext' hargs
 obtain⟨rfl,rfl⟩:=trodVars_none hV
 clear hA0
 have hlt:∀x∈p0++(p1++(p2++(p3++(p4++(p5++(p6++(p7++(p8++(p9++(p10++([]))))))))))),x.block < W.heap.size:=fun x hx=>hW'.lt x (by simpa using hx)
 have hpos:=GS hsh
 obtain⟨r0,l0,s0,e0,y0⟩:=FT (hval 0 22 v0 rfl rfl) h0
 obtain⟨r1,a1,b1,c1,rfl,i1,j1,k1⟩:=CV (hval 1 23 v1 rfl rfl) h1
 obtain⟨r2,z2,rfl,y2⟩:=GN (hval 2 3 v2 rfl rfl) h2
 obtain⟨r3,z3,rfl⟩:=JQ (hval 3 4 v3 rfl rfl) h3
 obtain⟨r4,a4,b4,rfl,i4,j4⟩:=Lj (hval 4 24 v4 rfl rfl) h4
 obtain⟨r5,l5,s5,e5,y5⟩:=FR (hval 5 25 v5 rfl rfl) h5
 obtain⟨r6,l6,s6,e6,y6⟩:=FR (hval 6 25 v6 rfl rfl) h6
 obtain⟨r7,w7,g7,c7,rfl,i7,j7,cap7,l7,s7,e7,y7⟩:=AH (hval 7 27 v7 rfl rfl) h7
 obtain⟨r8,z8,rfl,y8⟩:=GN (hval 8 3 v8 rfl rfl) h8
 obtain⟨r9,z9,rfl⟩:=JP (hval 9 5 v9 rfl rfl) h9
 obtain⟨r10,z10,rfl,e10⟩:=zJ (hval 10 9 v10 rfl rfl) h10
 have hcl:=sK Pf Ng JT (m:=dU W) (by rw[pz];exact hpos) (.inr s0) y0 e0 i1 j1 k1 y2 (behind:=z3) i4 j4 (.inr s5) y5 e5 (.inr s6) y6 e6 (rw:=w7) (rh:=g7) s7 cap7 e7 y8 (c:=z9) e10
 refine(zk Pe hpos hcl (args':= #[v0,_,_,_,_,v5,v6,_,_,_,_]) (.cons r0 (.cons r1 (.cons r2 (.cons r3 (.cons r4 (.cons r5 (.cons r6 (.cons r7 (.cons r8 (.cons r9 (.cons r10 .nil)))))))))))).mono fun e' W' ⟨he,hb⟩=>?_
 subst he
 have hs:∀x∈p0++(p1++(p2++(p3++(p4++(p5++(p6++(p7++(p8++(p9++(p10++([]))))))))))),(fun b=>decide (b < W.heap.size)) x.block=true:=fun x hx=>by simpa using hlt x hx
 refine⟨_,rfl,_,_,_,[],p0++(p1++(p2++(p3++(p4++(p5++(p6++(p7++(p8++(p9++(p10++([]))))))))))),[],hW',trodAll_cons_mk (shut_bool uN _) trodAll_mk0,?_,rfl,hb.frame _,fun h=>by cases h⟩
 rw[uV]
 exact(trodAll_cons_mk (IY hb h0 (fun x hx=>hlt x (by simp[hx])) _ fun x hx=>hs x (by simp[hx])) (trodAll_cons_mk (IX hb h1 (fun x hx=>hlt x (by simp[hx])) _ fun x hx=>hs x (by simp[hx])) (trodAll_cons_mk (FN hb h2 (fun x hx=>hlt x (by simp[hx])) _ fun x hx=>hs x (by simp[hx])) (trodAll_cons_mk (Lo hb h3 (fun x hx=>hlt x (by simp[hx])) _ fun x hx=>hs x (by simp[hx])) (trodAll_cons_mk (IW hb h4 (fun x hx=>hlt x (by simp[hx])) _ fun x hx=>hs x (by simp[hx])) (trodAll_cons_mk (Bs hb h5 (fun x hx=>hlt x (by simp[hx])) _ fun x hx=>hs x (by simp[hx])) (trodAll_cons_mk (Bs hb h6 (fun x hx=>hlt x (by simp[hx])) _ fun x hx=>hs x (by simp[hx])) (trodAll_cons_mk (IV hb h7 (fun x hx=>hlt x (by simp[hx])) _ fun x hx=>hs x (by simp[hx])) (trodAll_cons_mk (FN hb h8 (fun x hx=>hlt x (by simp[hx])) _ fun x hx=>hs x (by simp[hx])) (trodAll_cons_mk (Lm hb h9 (fun x hx=>hlt x (by simp[hx])) _ fun x hx=>hs x (by simp[hx])) (trodAll_cons_mk (Ll hb h10 (fun x hx=>hlt x (by simp[hx])) _ fun x hx=>hs x (by simp[hx])) trodAll_mk0)))))))))))
theorem GI(os:Os):laidMet Tryz.prog Rows.drawMatchesReferenceRow.laid ((pQ os).forCall (fun _ _=>0) ⟨#[], #[.slice none 0 0,.agg #[.int .i64 0,.int .i64 0,.int .i64 0],.int .i64 0,.bool false,.agg #[.int .i64 0,.int .i64 0],.slice none 0 0,.slice none 0 0,.agg #[.int .i64 0,.int .i64 0,.slice none 0 0],.int .i64 0,.int .u8 0,.string ⟨#[]⟩],[]⟩).memory:=
 laidMet_of_run' 8 (by kernel_rfl) (by kernel_rfl)
theorem reads(os:Os){H:Type}(enc:TypeId×Value->H):∃ds places,DataW.whole enc Tryz.prog ((pQ os).forCall (fun _ _=>0) ⟨#[], #[.slice none 0 0,.agg #[.int .i64 0,.int .i64 0,.int .i64 0],.int .i64 0,.bool false,.agg #[.int .i64 0,.int .i64 0],.slice none 0 0,.slice none 0 0,.agg #[.int .i64 0,.int .i64 0,.slice none 0 0],.int .i64 0,.int .u8 0,.string ⟨#[]⟩],[]⟩).memory Tryz.f3.params.toList Rows.drawMatchesReferenceSpec.vars false ((#[.slice none 0 0,.agg #[.int .i64 0,.int .i64 0,.int .i64 0],.int .i64 0,.bool false,.agg #[.int .i64 0,.int .i64 0],.slice none 0 0,.slice none 0 0,.agg #[.int .i64 0,.int .i64 0,.slice none 0 0],.int .i64 0,.int .u8 0,.string ⟨#[]⟩]:Array Value)).toList 8=some (ds,[],places):=
 ⟨[.nil,.agg [.lit (.int .i64 0),.lit (.int .i64 0),.lit (.int .i64 0)],.lit (.int .i64 0),.lit (.bool false),.agg [.lit (.int .i64 0),.lit (.int .i64 0)],.nil,.nil,.agg [.lit (.int .i64 0),.lit (.int .i64 0),.nil],.lit (.int .i64 0),.lit (.int .u8 0),.lit (.string [])],[],by kernel_rfl⟩
set_option maxRecDepth 100000 in
theorem lifted(os:Os)(started:os.Started)(H:Type)(enc:TypeId×Value->H)(F:Stop.Interp):
  ReturnsInHanded {} Tryz.checked os 3 .any ((OpenSpec.ofChange Rows.drawMatchesReferenceSpec).preRow enc Tryz.prog Tryz.f3 Rows.drawMatchesReferenceRow.domain false Rows.drawMatchesReferenceRow.laid) (((OpenSpec.ofChange Rows.drawMatchesReferenceSpec).at F).post enc Tryz.prog Tryz.f3 false true false false):=by
 obtain⟨ds,places,hx⟩:=reads os enc
 refine returnsInHanded_of_row (C:=Tryz.checked) (s:=OpenSpec.ofChange Rows.drawMatchesReferenceSpec) uW started (by kernel_rfl) Tryz.func3
  (witness_row_at (enc:=enc) (C:=Tryz.checked) false (pQ os) #[.slice none 0 0,.agg #[.int .i64 0,.int .i64 0,.int .i64 0],.int .i64 0,.bool false,.agg #[.int .i64 0,.int .i64 0],.slice none 0 0,.slice none 0 0,.agg #[.int .i64 0,.int .i64 0,.slice none 0 0],.int .i64 0,.int .u8 0,.string ⟨#[]⟩] rfl (by kernel_rfl) (by kernel_rfl) (by kernel_rfl)
   (OpenSpec.preRow_of_cond 8 hx (by kernel_rfl) (fun k hk=>by cases hk) (by kernel_rfl) (GI os))) ?_
 intro W base args ds gs before hval hW _ _ _ _ hsh _
 exact Ib H enc W base args ds gs before hval hW hsh
end Go.Proofs.YtmdfgncoekfgdaaGreatDoor.cO
