/- What the row says is laid: the .. -/
import Derived.Test.YthffgohpkjpkbaaGreatDoorG10J
set_option maxHeartbeats 1000000
set_option linter.defProp false
namespace Go.Proofs.YthffgohpkjpkbaaGreatDoor
open Go Go.D
def Rd(P:Program)(t:TypeId)(d:DataW Unit)(vs:ν):Prop:=∀(enc:TypeId×O->Unit) w base sp held fuel cs q,DataW.trod enc P w base sp held fuel t cs=some (d,q)->cs=vs
variable{P:Program}{t e:TypeId}
def Rd.int{k:IntKind}{z:Int}(F:P.underlying t=some (.int k)):Rd P t (.lit (.int k z)) [.int k z]:=λenc w base sp held fuel cs q h=>by obtain⟨n,rfl,H, -⟩:=DataW.trod_int F h;grind
def Rd.str{l:List UInt8}(F:P.underlying t=some .string):Rd P t (.lit (.string l)) [.string ⟨l.toArray⟩]:=λenc w base sp held fuel cs q h=>by obtain⟨s,rfl,H, -⟩:=DataW.trod_string F h;simp_all
theorem sY{α:Type}{V:α->ν}{c:Nat}:∀{ls:List α} {cs:ν},cs.length=ls.length*c->(∀i x,ls[i]?=some x->(cs.drop (i*c)).take c=V x)->cs=ls.flatMap V
 |[],cs,h,_=>by simp_all
 |x::r,cs,h,H=>by have F:=H 0 x rfl;rw[Vk,Mf]at F;have h1:=sY (V:=V) (c:=c) (ls:=r) (cs:=cs.drop c) (by rw[Va,h,Rq,PC];omega) λi y hi=>(by rw[Xa,show c+i*c=(i+1)*c by grind];grind);rw[WZ,<-F,<-h1,Jy]
def Rd.arr{α:Type}{D:α->DataW Unit}{V:α->ν}{n c:Nat}(ht:P.underlying t=some (.array n e))(b0:P.cellsOf t=n*c)(F:P.cellsOf e=c){ls:List α}(hl:ls.length=n)(h:∀x∈ls,Rd P e (D x) (V x)):Rd P t (.agg (ls.map D)) (ls.flatMap V):=λenc w base sp held fuel cs q hd=>by obtain⟨xs,m, -,hx,d0,e0,H⟩:=DataW.trod_array ht hd;simp only[Ax,DataW.agg.injEq]at hx;refine sY (c:=c) J λi x hi=>?_;have g0:=(Nr.1 hi).1;have h1:=H i Z;obtain⟨y,hy⟩:∃y,xs[i]?=some y:=⟨_,QC Z⟩;have h2:(xs.map (·.1))[i]?=some y.1:=J;rw[<-hx.1,Uo,hi]at h2;rw[hy,F]at h1;exact h x (QP hi) enc w base sp held m _ y.2 J
def Rd.struct{α:Type}{D:α->DataW Unit}{V:α->ν}{F:Array Field}(ht:P.underlying t=some (.struct F))(e0:P.cellsOf t=F.size)(hf:∀(i:Nat) (f:Field),F[i]?=some f->f.offset=i/\f.type=e)(b0:P.cellsOf e=1){ls:List α}(hl:ls.length=F.size)(h:∀x∈ls,Rd P e (D x) (V x)):Rd P t (.agg (ls.map D)) (ls.flatMap V):=λenc w base sp held fuel cs q hd=>by obtain⟨xs,m, -,hx,g0,h0,d0⟩:=DataW.trod_struct ht hd;simp only[Ax,DataW.agg.injEq]at hx;refine sY (c:=1) J λi x hi=>?_;have i0:=(Nr.1 hi).1;obtain⟨f,H⟩:∃f,F[i]?=some f:=⟨_,P3 Z⟩;have⟨f1,f2⟩:=hf i f H;have h1:=d0 i f H;obtain⟨y,hy⟩:∃y,xs[i]?=some y:=⟨_,QC Z⟩;have h2:(xs.map (·.1))[i]?=some y.1:=J;rw[<-hx.1,Uo,hi]at h2;rw[hy,f1,f2,b0]at h1;rw[Pc];exact h x (QP hi) enc w base sp held m _ y.2 J
def We:List (List UInt8):=[[],[112,114,111,112],[116,97,107,101],[112,117,116],[114,101,112,108,97,99,101],[99,108,101,97,110],[114,101,111,112,101,110],[98,108,111,99,107],[114,101,99,111,114,100],[112,111,105,110,116]]
def Oo:ν:=We.flatMap λl=> [.string ⟨l.toArray⟩]
def powL:List Int:=[1,10,100,1000,10000,100000,1000000,10000000,100000000,1000000000,10000000000,100000000000,1000000000000,10000000000000,100000000000000,1000000000000000,10000000000000000,100000000000000000,1000000000000000000,10000000000000000000]
def powC:ν:=powL.flatMap λz=> [.int .u64 z]
def IN:ν:=nM.flatMap Sf.c
def adE:Rd Tryz.prog 199 Rows.laid_putlog_works_words Oo:=
 Rd.arr (c:=1) (e:=9) (D:=λl=> .lit (.string l)) (ls:=We) bv bv bv rfl λ_ _=>Rd.str bv
def Um:Rd Tryz.prog 364 Rows.laid_internal_strconv_uint64pow10 powC:=
 Rd.arr (c:=1) (e:=296) (D:=λz=> .lit (.int .u64 z)) (ls:=powL) bv bv bv rfl λ_ _=>Rd.int bv
def abe:Rd Tryz.prog 212 Rows.laid_putlog_unit_stuffs IN:=
 Rd.arr (c:=5) (e:=96) (D:=λx:Sf=> .agg ([x.de,x.gr,x.st,x.po,x.sa].map λz=> .lit (.int .i64 z))) (ls:=nM) bv bv bv rfl λx _=>
  Rd.struct (e:=3) (V:=λz=> [I z]) (ls:=[x.de,x.gr,x.st,x.po,x.sa]) Tryz.underlying96 bv (by intro i f h;match i,h with|0,h|1,h|2,h|3,h|4,h=>cases h;exact⟨rfl,rfl⟩|k+5,h=>cases h) bv rfl λ_ _=>Rd.int bv
structure ry(m:M):Prop where
 w:m.get 0=.ro Oo
 s:m.get 1=.ro IN
 p:m.get 5=.ro powC
def ry.ak{m m':M}(h:ry m)(F:Ext m m'):ry m':=⟨F.ro h.w,F.ro h.s,F.ro h.p⟩
def ry.stuff{m:M}(h:ry m):gD m:=h.s
def yO{W:World}{name:String}{g:Nat}{t:TypeId}{d:DataW Unit}{vs:ν}(hn:Tryz.prog.globalNamed name=some g)(H:(Tryz.prog.globals[g]?).map (·.type)=some t)(hr:Rd Tryz.prog t d vs)(hf:vs.all bL)
  (h:∃g t cs fuel q,Tryz.prog.globalNamed name=some g/\(Tryz.prog.globals[g]?).map (·.type)=some t/\W.var? Tryz.prog name=some cs/\DataW.trod (λ_=>()) Tryz.prog W 0 (λ_=>true) false fuel t cs.toList=some (d,q)):(fF W).get g=.ro vs:=by have⟨g',t',cs,fuel,q,e1,e2,F,e4⟩:=h;obtain rfl:=Option.some.inj (hn.symm.trans e1);obtain rfl:=Option.some.inj (H.symm.trans e2);have hc:=hr _ _ _ _ _ _ _ _ e4;unfold World.var? at F;rw[hn,RM]at F;split at F;rename_i c t0 fz hg;cases F;have b0:g<W.heap.size:=(N3.1 hg).1;rw[sj W b0,hg];show Ob.ro (jl cs)=_;unfold jl;rw[hc];congr 1;rw[List.map_congr_left (g:=id) λv hv=>J,List.map_id];cases F
def T6{W:World}(h:laidMetH Tryz.prog Rows.worksSuitsRow.laid W):ry (fF W):=by rw[MakeChecks.laidMetH_plain _ _ _ bv]at h;have⟨_,⟨_,_,_,_,_,_,_,_,_,_,⟨_,_,_,_,_,_,_,_,_,_,⟨g1,t1,F,f1,H,q1,a1,b1,d1,e1,⟨_,_,_,_,_,_,_,_,_,_,⟨_,_,_,_,_,_,_,_,_,_,⟨_,_,_,_,_,_,_,_,_,_,⟨g2,t2,c2,f2,p2,q2,a2,b2,d2,e2,⟨g3,t3,c3,f3,p3,q3,a3,b3,d3,e3,_,_⟩,_⟩,_⟩,_⟩,_⟩,_⟩,_⟩,_⟩,_⟩:=h;exact⟨yO bv bv adE rfl ⟨g3,t3,c3,f3,p3,a3,b3,d3,e3⟩,yO bv bv abe rfl ⟨g2,t2,c2,f2,p2,a2,b2,d2,e2⟩,yO bv bv Um rfl ⟨g1,t1,F,f1,H,a1,b1,d1,e1⟩⟩
