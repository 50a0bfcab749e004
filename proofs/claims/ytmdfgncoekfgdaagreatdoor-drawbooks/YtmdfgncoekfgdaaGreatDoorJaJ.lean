/- The law DrawBooks: the contract of the call, and its lift. -/
import Derived.Test.YtmdfgncoekfgdaaGreatDoorG15J
import Derived.Test.YtmdfgncoekfgdaaGreatDoorG28J
import Derived.Test.YtmdfgncoekfgdaaGreatDoorG30J
namespace Go.Proofs.YtmdfgncoekfgdaaGreatDoor.jr
open Go.D Go.ChangeShapes Go.WideShapes Go.ChangeAt Go.RowKit
theorem vW:Tryz.f7.params= #[57,3,3]:=by kernel_rfl
set_option maxRecDepth 100000 in
theorem Js(H:Type)(enc:TypeId×Value->H)(W:World)(base:Nat)(args:Array Value)(ds gs:List (DataW H))(before:List MemPlace)
  (hval:∀(j:Nat) t v,Tryz.f7.params[j]?=some t->args[j]?=some v->Value.okWide Tryz.prog W .any base t v)
  (hW:DataW.Whole enc Tryz.prog Tryz.f7.params.toList Rows.drawBooksSpec.vars false W args.toList ds gs before) (hsh:W.ShapedOpen Tryz.prog):
  Calls Tryz.prog 7 args W fun e W'=>∃v,e=.returned v/\Rows.drawBooksSpec.post enc Tryz.prog Tryz.f7 false true false false W args v W':=by
 have hW':=hW
 obtain⟨p,q,hA0,hV,rfl,hfz,hnd⟩:=hW
 have hA:DataW.TrodAll enc Tryz.prog W 0 (fun _=>true) true Tryz.f7.params.toList args.toList ds p:=hA0
 rw[vW]at hA hval
 obtain⟨v0,vs0,d0,ds0,p0,q0,hargs,rfl,rfl,h0,hA1⟩:=trodAll_cons hA
 obtain⟨v1,vs1,d1,ds1,p1,q1,rfl,rfl,rfl,h1,hA2⟩:=trodAll_cons hA1
 obtain⟨v2,vs2,d2,ds2,p2,q2,rfl,rfl,rfl,h2,hA3⟩:=trodAll_cons hA2
 obtain⟨rfl,rfl,rfl⟩:=trodAll_nil hA3
 obtain rfl:args= #[v0,v1,v2]:=Array.ext' hargs
 obtain⟨rfl,rfl⟩:=trodVars_none hV
 clear hA0
 have hlt:∀x∈p0++(p1++(p2++([]))),x.block < W.heap.size:=fun x hx=>hW'.lt x (by simpa using hx)
 have hpos:=Ih hsh
 obtain⟨r0,vb,vk,va,rfl,⟨lb,sb,eb,yb⟩,lk,sk,ek,yk⟩:=AK (hval 0 57 v0 rfl rfl) h0
 obtain⟨r1,z1,rfl,y1⟩:=Ic (hval 1 3 v1 rfl rfl) h1
 obtain⟨r2,z2,rfl,y2⟩:=Ic (hval 2 3 v2 rfl rfl) h2
 have hcl:=wS QU OT LG (m:=ec W) (by rw[pV];exact hpos) (va:=va) (.inr sb) yb eb (.inr sk) yk ek y1 y2
 refine(zU QT hpos hcl (args':= #[_,_,_]) (.cons r0 (.cons r1 (.cons r2 .nil)))).mono fun e' W' ⟨he,hb⟩=>?_
 subst he
 have hs:∀x∈p0++(p1++(p2++([]))),(fun b=>decide (b < W.heap.size)) x.block=true:=fun x hx=>by simpa using hlt x hx
 refine⟨_,rfl,_,_,_,[],p0++(p1++(p2++([]))),[],hW',trodAll_cons_mk (shut_bool MK _) trodAll_mk0,?_,rfl,hb.frame _,fun h=>by cases h⟩
 rw[vW]
 exact(trodAll_cons_mk (Ks hb h0 (fun x hx=>hlt x (by simp[hx])) _ fun x hx=>hs x (by simp[hx])) (trodAll_cons_mk (GN hb h1 (fun x hx=>hlt x (by simp[hx])) _ fun x hx=>hs x (by simp[hx])) (trodAll_cons_mk (GN hb h2 (fun x hx=>hlt x (by simp[hx])) _ fun x hx=>hs x (by simp[hx])) trodAll_mk0)))
theorem HX(os:Os):laidMet Tryz.prog Rows.drawBooksRow.laid ((qp os).forCall (fun _ _=>0) ⟨#[], #[.agg #[.slice none 0 0,.slice none 0 0,.slice none 0 0],.int .i64 0,.int .i64 0],[]⟩).memory:=
 laidMet_of_run' 8 (by kernel_rfl) (by kernel_rfl)
theorem reads(os:Os){H:Type}(enc:TypeId×Value->H):∃ds places,DataW.whole enc Tryz.prog ((qp os).forCall (fun _ _=>0) ⟨#[], #[.agg #[.slice none 0 0,.slice none 0 0,.slice none 0 0],.int .i64 0,.int .i64 0],[]⟩).memory Tryz.f7.params.toList Rows.drawBooksSpec.vars false ((#[.agg #[.slice none 0 0,.slice none 0 0,.slice none 0 0],.int .i64 0,.int .i64 0]:Array Value)).toList 8=some (ds,[],places):=
 ⟨[.agg [.nil,.nil,.nil],.lit (.int .i64 0),.lit (.int .i64 0)],[],by kernel_rfl⟩
set_option maxRecDepth 100000 in
theorem lifted(os:Os)(started:os.Started)(H:Type)(enc:TypeId×Value->H)(F:Stop.Interp):
  ReturnsInHanded {} Tryz.checked os 7 .any ((OpenSpec.ofChange Rows.drawBooksSpec).preRow enc Tryz.prog Tryz.f7 Rows.drawBooksRow.domain false Rows.drawBooksRow.laid) (((OpenSpec.ofChange Rows.drawBooksSpec).at F).post enc Tryz.prog Tryz.f7 false true false false):=by
 obtain⟨ds,places,hx⟩:=reads os enc
 refine returnsInHanded_of_row (C:=Tryz.checked) (s:=OpenSpec.ofChange Rows.drawBooksSpec) vX started (by kernel_rfl) Tryz.func7
  (witness_row_at (enc:=enc) (C:=Tryz.checked) false (qp os) #[.agg #[.slice none 0 0,.slice none 0 0,.slice none 0 0],.int .i64 0,.int .i64 0] rfl (by kernel_rfl) (by kernel_rfl) (by kernel_rfl)
   (OpenSpec.preRow_of_cond 8 hx (by kernel_rfl) (fun k hk=>by cases hk) (by kernel_rfl) (HX os))) ?_
 intro W base args ds gs before hval hW _ _ _ _ hsh _
 exact Js H enc W base args ds gs before hval hW hsh
end Go.Proofs.YtmdfgncoekfgdaaGreatDoor.jr
