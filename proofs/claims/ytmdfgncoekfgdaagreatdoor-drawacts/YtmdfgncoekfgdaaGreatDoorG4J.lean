/- What the words of the formulas .. -/
import Derived.Test.YtmdfgncoekfgdaaGreatDoorTabJ
import Derived.Test.YtmdfgncoekfgdaaGreatDoorG2J
import Derived.OpenShut
import Derived.ChangeArms
import Derived.Below
set_option maxRecDepth 100000
noncomputable section
open Go Go.D
namespace Go.Proofs.YtmdfgncoekfgdaaGreatDoor
section
theorem cj{l:aee}(h:l.length=1):∃y0,l=[y0]:=by
 match l,h with
 |[y0],_=>exact⟨y0,rfl⟩
theorem xO{l:aee}(h:l.length=2):∃y0 y1,l=[y0,y1]:=by
 match l,h with
 |[y0,y1],_=>exact⟨y0,y1,rfl⟩
theorem uc{x0 x1 x2:aed}(h0:(cells x0).length=1)(h1:(cells x1).length=1)(h2:(cells x2).length=1):aR TE 234 [(0,x0),(1,x1),(2,x2)]=some (.agg (cells x0++(cells x1++(cells x2))).toArray):=by obtain⟨F,e0⟩:=cj h0;obtain⟨a0,e1⟩:=cj h1;obtain⟨b0,e2⟩:=cj h2;simp only[aR,show TE.ty.get 234=some ag.t234 by kernel_rfl,ag.t234,fill,bB,aad,aah,aaJ,abc,aag,e0,e1,e2];rfl
theorem ub{x0 x1 x2:aed}(h0:(cells x0).length=1)(h1:(cells x1).length=1)(h2:(cells x2).length=1):aR TE 236 [(0,x0),(1,x1),(2,x2)]=some (.agg (cells x0++(cells x1++(cells x2))).toArray):=by obtain⟨F,e0⟩:=cj h0;obtain⟨a0,e1⟩:=cj h1;obtain⟨b0,e2⟩:=cj h2;simp only[aR,show TE.ty.get 236=some ag.t236 by kernel_rfl,ag.t236,fill,bB,aad,aah,aaJ,abc,aag,e0,e1,e2];rfl
theorem tH{x0:aed}(h0:(cells x0).length=2):aR TE 258 [(0,x0)]=some (.agg (cells x0).toArray):=by obtain⟨F,a0,e0⟩:=xO h0;simp only[aR,show TE.ty.get 258=some ag.t258 by kernel_rfl,ag.t258,fill,bB,aad,aah,aaJ,abc,aag,e0];rfl
theorem At{x0 x1:aed}(h0:(cells x0).length=1)(h1:(cells x1).length=1):aR TE 27 [(0,x0),(1,x1)]=some (.agg (cells x0++(cells x1++(([aeg]:aee)))).toArray):=by obtain⟨F,e0⟩:=cj h0;obtain⟨a0,e1⟩:=cj h1;simp only[aR,show TE.ty.get 27=some ag.t27 by kernel_rfl,ag.t27,fill,bB,aad,aah,aaJ,abc,aag,e0,e1];rfl
theorem Iy:aR TE 31 []=some (.agg (([aeg]:aee)).toArray):=by kernel_rfl
theorem ED{x0:aed}(h0:(cells x0).length=1):aR TE 31 [(0,x0)]=some (.agg (cells x0).toArray):=by obtain⟨F,e0⟩:=cj h0;simp only[aR,show TE.ty.get 31=some ag.t31 by kernel_rfl,ag.t31,fill,bB,aad,aah,aaJ,abc,aag,e0];rfl
theorem zo:aR TE 60 []=some (.agg (([aeg]:aee)++(([aeg]:aee))).toArray):=by kernel_rfl
theorem EC{x0:aed}(h0:(cells x0).length=1):aR TE 60 [(0,x0)]=some (.agg (cells x0++(([aeg]:aee))).toArray):=by obtain⟨F,e0⟩:=cj h0;simp only[aR,show TE.ty.get 60=some ag.t60 by kernel_rfl,ag.t60,fill,bB,aad,aah,aaJ,abc,aag,e0];rfl
theorem EB{x0:aed}(h0:(cells x0).length=1):aR TE 60 [(1,x0)]=some (.agg (([aeg]:aee)++(cells x0)).toArray):=by obtain⟨F,e0⟩:=cj h0;simp only[aR,show TE.ty.get 60=some ag.t60 by kernel_rfl,ag.t60,fill,bB,aad,aah,aaJ,abc,aag,e0];rfl
theorem zn:aR TE 87 []=some (.agg (([.int .i64 0]:aee)++(([.int .i64 0]:aee)++(([.int .i64 0]:aee)++(([aeg]:aee)++(([.int .i64 0]:aee)++(([.int .i64 0]:aee))))))).toArray):=by kernel_rfl
theorem oF{x0 x1 x2 x3 x4 x5:aed}(h0:(cells x0).length=1)(h1:(cells x1).length=1)(h2:(cells x2).length=1)(h3:(cells x3).length=1)(h4:(cells x4).length=1)(h5:(cells x5).length=1):aR TE 87 [(0,x0),(1,x1),(2,x2),(3,x3),(4,x4),(5,x5)]=some (.agg (cells x0++(cells x1++(cells x2++(cells x3++(cells x4++(cells x5)))))).toArray):=by obtain⟨F,e0⟩:=cj h0;obtain⟨a0,e1⟩:=cj h1;obtain⟨b0,e2⟩:=cj h2;obtain⟨d0,e3⟩:=cj h3;obtain⟨g0,e4⟩:=cj h4;obtain⟨i0,e5⟩:=cj h5;simp only[aR,show TE.ty.get 87=some ag.t87 by kernel_rfl,ag.t87,fill,bB,aad,aah,aaJ,abc,aag,e0,e1,e2,e3,e4,e5];rfl
theorem eT{x0 x1:aed}(h0:(cells x0).length=1)(h1:(cells x1).length=1):aR TE 98 [(0,x0),(1,x1)]=some (.agg (cells x0++(cells x1)).toArray):=by obtain⟨F,e0⟩:=cj h0;obtain⟨a0,e1⟩:=cj h1;simp only[aR,show TE.ty.get 98=some ag.t98 by kernel_rfl,ag.t98,fill,bB,aad,aah,aaJ,abc,aag,e0,e1];rfl
theorem wP{m:M}{k:IntKind}{n:Int}:IN TE m 224 3 (.int k n)=some (.int .i64 (IntKind.wrap .i64 n)):=by kernel_rfl
theorem wO{m:M}{k:IntKind}{n:Int}:IN TE m 3 224 (.int k n)=some (.int .u64 (IntKind.wrap .u64 n)):=by kernel_rfl
theorem aef{t i b o k:Nat}(h:af TE t (aeb b o) i=some (.pointer (some (Addr.add ⟨b,o,none⟩ k)))):af TE t (aeb b o) i=some (aeb b (o+k)):=by rw[h,bw rfl]
theorem nC{b o:Nat}:af TE 186 (aeb b o) 0=some (aeb b (o+0)):=aef (by kernel_rfl)
theorem tZ{b o:Nat}:af TE 186 (aeb b o) 1=some (aeb b (o+1)):=aef (by kernel_rfl)
theorem jR{b o:Nat}:af TE 186 (aeb b o) 2=some (aeb b (o+2)):=aef (by kernel_rfl)
theorem tY{b o:Nat}:af TE 234 (aeb b o) 0=some (aeb b (o+0)):=aef (by kernel_rfl)
theorem tX{b o:Nat}:af TE 234 (aeb b o) 1=some (aeb b (o+1)):=aef (by kernel_rfl)
theorem tW{b o:Nat}:af TE 234 (aeb b o) 2=some (aeb b (o+2)):=aef (by kernel_rfl)
theorem jQ{b o:Nat}:af TE 236 (aeb b o) 0=some (aeb b (o+0)):=aef (by kernel_rfl)
theorem jP{b o:Nat}:af TE 236 (aeb b o) 1=some (aeb b (o+1)):=aef (by kernel_rfl)
theorem jO{b o:Nat}:af TE 236 (aeb b o) 2=some (aeb b (o+2)):=aef (by kernel_rfl)
theorem bL{b o:Nat}:af TE 258 (aeb b o) 0=some (aeb b (o+0)):=aef (by kernel_rfl)
theorem eG{b o:Nat}:af TE 27 (aeb b o) 0=some (aeb b (o+0)):=aef (by kernel_rfl)
theorem fg{b o:Nat}:af TE 27 (aeb b o) 1=some (aeb b (o+1)):=aef (by kernel_rfl)
theorem eF{b o:Nat}:af TE 27 (aeb b o) 2=some (aeb b (o+2)):=aef (by kernel_rfl)
theorem bu{b o:Nat}:af TE 31 (aeb b o) 0=some (aeb b (o+0)):=aef (by kernel_rfl)
theorem wC{b o:Nat}:af TE 57 (aeb b o) 0=some (aeb b (o+0)):=aef (by kernel_rfl)
theorem oz{b o:Nat}:af TE 57 (aeb b o) 1=some (aeb b (o+1)):=aef (by kernel_rfl)
theorem bK{b o:Nat}:af TE 60 (aeb b o) 0=some (aeb b (o+0)):=aef (by kernel_rfl)
theorem bX{b o:Nat}:af TE 60 (aeb b o) 1=some (aeb b (o+1)):=aef (by kernel_rfl)
theorem bE{b o:Nat}:af TE 87 (aeb b o) 0=some (aeb b (o+0)):=aef (by kernel_rfl)
theorem kZ{b o:Nat}:af TE 87 (aeb b o) 1=some (aeb b (o+1)):=aef (by kernel_rfl)
theorem kY{b o:Nat}:af TE 87 (aeb b o) 2=some (aeb b (o+2)):=aef (by kernel_rfl)
theorem bA{b o:Nat}:af TE 87 (aeb b o) 3=some (aeb b (o+3)):=aef (by kernel_rfl)
theorem ff{b o:Nat}:af TE 87 (aeb b o) 4=some (aeb b (o+4)):=aef (by kernel_rfl)
theorem fc{b o:Nat}:af TE 87 (aeb b o) 5=some (aeb b (o+5)):=aef (by kernel_rfl)
theorem cH{b o:Nat}:af TE 89 (aeb b o) 0=some (aeb b (o+0)):=aef (by kernel_rfl)
theorem fW{b o:Nat}:af TE 89 (aeb b o) 1=some (aeb b (o+1)):=aef (by kernel_rfl)
theorem kX{b o:Nat}:af TE 89 (aeb b o) 2=some (aeb b (o+2)):=aef (by kernel_rfl)
theorem wB{b o:Nat}:af TE 89 (aeb b o) 3=some (aeb b (o+3)):=aef (by kernel_rfl)
theorem kW{b o:Nat}:af TE 89 (aeb b o) 4=some (aeb b (o+4)):=aef (by kernel_rfl)
theorem fb{b o:Nat}:af TE 91 (aeb b o) 0=some (aeb b (o+0)):=aef (by kernel_rfl)
theorem bN{b o:Nat}:af TE 91 (aeb b o) 1=some (aeb b (o+1)):=aef (by kernel_rfl)
theorem aW{b o:Nat}:af TE 91 (aeb b o) 2=some (aeb b (o+7)):=aef (by kernel_rfl)
theorem cn{b o:Nat}:af TE 91 (aeb b o) 3=some (aeb b (o+8)):=aef (by kernel_rfl)
theorem cq{b o:Nat}:af TE 91 (aeb b o) 4=some (aeb b (o+9)):=aef (by kernel_rfl)
theorem dW{b o:Nat}:af TE 91 (aeb b o) 5=some (aeb b (o+10)):=aef (by kernel_rfl)
theorem cf{b o:Nat}:af TE 98 (aeb b o) 0=some (aeb b (o+0)):=aef (by kernel_rfl)
theorem ck{b o:Nat}:af TE 98 (aeb b o) 1=some (aeb b (o+1)):=aef (by kernel_rfl)
theorem vY{m:M}{a:Option Addr}{n c:Nat}:av TE m .len [25] [.slice a n c]=some (.int .i64 n,m):=by kernel_rfl
theorem Rg{m:M}{a:Option Addr}{n c:Nat}:av TE m .len [29] [.slice a n c]=some (.int .i64 n,m):=by kernel_rfl
theorem KY{m:M}{a:Option Addr}{n c:Nat}:av TE m .len [45] [.slice a n c]=some (.int .i64 n,m):=by kernel_rfl
theorem KS{m:M}{a:Addr}:ah TE m 133 (.pointer (some a))=D.cellAt m a:=by kernel_rfl
theorem BR{m:M}{a:Addr}:ah TE m 181 (.pointer (some a))=D.cellAt m a:=by kernel_rfl
theorem vW{m:M}{a:Addr}:ah TE m 182 (.pointer (some a))=D.cellAt m a:=by kernel_rfl
theorem KR{m:M}{a:Addr}:ah TE m 186 (.pointer (some a))=(D.loadCells m a 5).map (λcs=> .agg cs.toArray):=by kernel_rfl
theorem Ou{m:M}{a:Addr}:ah TE m 22 (.pointer (some a))=D.cellAt m a:=by kernel_rfl
theorem KQ{m:M}{a:Addr}:ah TE m 236 (.pointer (some a))=(D.loadCells m a 3).map (λcs=> .agg cs.toArray):=by kernel_rfl
theorem lK{m:M}{a:Addr}:ah TE m 25 (.pointer (some a))=D.cellAt m a:=by kernel_rfl
theorem kh{m:M}{a:Addr}:ah TE m 27 (.pointer (some a))=(D.loadCells m a 3).map (λcs=> .agg cs.toArray):=by kernel_rfl
theorem eJ{m:M}{a:Addr}:ah TE m 29 (.pointer (some a))=D.cellAt m a:=by kernel_rfl
theorem cd{m:M}{a:Addr}:ah TE m 3 (.pointer (some a))=D.cellAt m a:=by kernel_rfl
theorem dp{m:M}{a:Addr}:ah TE m 31 (.pointer (some a))=(D.loadCells m a 1).map (λcs=> .agg cs.toArray):=by kernel_rfl
theorem Ot{m:M}{a:Addr}:ah TE m 35 (.pointer (some a))=D.cellAt m a:=by kernel_rfl
theorem qq{m:M}{a:Addr}:ah TE m 4 (.pointer (some a))=D.cellAt m a:=by kernel_rfl
theorem kg{m:M}{a:Addr}:ah TE m 45 (.pointer (some a))=D.cellAt m a:=by kernel_rfl
theorem Oq{m:M}{a:Addr}:ah TE m 55 (.pointer (some a))=D.cellAt m a:=by kernel_rfl
theorem Oo{m:M}{a:Addr}:ah TE m 57 (.pointer (some a))=(D.loadCells m a 3).map (λcs=> .agg cs.toArray):=by kernel_rfl
theorem pj{m:M}{a:Addr}:ah TE m 58 (.pointer (some a))=D.cellAt m a:=by kernel_rfl
theorem ph{m:M}{a:Addr}:ah TE m 60 (.pointer (some a))=(D.loadCells m a 2).map (λcs=> .agg cs.toArray):=by kernel_rfl
theorem On{m:M}{a:Addr}:ah TE m 85 (.pointer (some a))=(D.loadCells m a 6).map (λcs=> .agg cs.toArray):=by kernel_rfl
theorem rE{m:M}{a:Addr}:ah TE m 87 (.pointer (some a))=(D.loadCells m a 6).map (λcs=> .agg cs.toArray):=by kernel_rfl
theorem zV{m:M}{a:Addr}:ah TE m 89 (.pointer (some a))=(D.loadCells m a 5).map (λcs=> .agg cs.toArray):=by kernel_rfl
theorem Om{m:M}{a:Addr}:ah TE m 91 (.pointer (some a))=(D.loadCells m a 15).map (λcs=> .agg cs.toArray):=by kernel_rfl
theorem Ol{m:M}{a:Addr}:ah TE m 95 (.pointer (some a))=D.cellAt m a:=by kernel_rfl
theorem Fx{m:M}{a:Addr}:ah TE m 98 (.pointer (some a))=(D.loadCells m a 2).map (λcs=> .agg cs.toArray):=by kernel_rfl
theorem QN:TE.ty.get 133=some ag.t133:=by kernel_rfl
theorem QM:TE.ty.get 166=some ag.t166:=by kernel_rfl
theorem hO:TE.ty.get 186=some ag.t186:=by kernel_rfl
theorem Uz:TE.ty.get 22=some ag.t22:=by kernel_rfl
theorem uS:TE.ty.get 236=some ag.t236:=by kernel_rfl
theorem EV:TE.ty.get 25=some ag.t25:=by kernel_rfl
theorem uR:TE.ty.get 27=some ag.t27:=by kernel_rfl
theorem AS:TE.ty.get 29=some ag.t29:=by kernel_rfl
theorem mO:TE.ty.get 3=some ag.t3:=by kernel_rfl
theorem im:TE.ty.get 31=some ag.t31:=by kernel_rfl
theorem NQ:TE.ty.get 4=some ag.t4:=by kernel_rfl
theorem kG:TE.ty.get 45=some ag.t45:=by kernel_rfl
theorem JQ:TE.ty.get 58=some ag.t58:=by kernel_rfl
theorem EU:TE.ty.get 60=some ag.t60:=by kernel_rfl
theorem ep:TE.ty.get 87=some ag.t87:=by kernel_rfl
theorem AR:TE.ty.get 89=some ag.t89:=by kernel_rfl
theorem jV:TE.ty.get 98=some ag.t98:=by kernel_rfl
theorem XP:TE.fn.get 6=some Tryz.f6:=by kernel_rfl
theorem XO:TE.fn.get 9=some Tryz.f9:=by kernel_rfl
theorem VE:TE.fn.get 11=some Tryz.f11:=by kernel_rfl
theorem VD:TE.fn.get 21=some Tryz.f21:=by kernel_rfl
theorem VC:TE.fn.get 25=some Tryz.f25:=by kernel_rfl
theorem VB:TE.fn.get 34=some Tryz.f34:=by kernel_rfl
theorem VA:TE.fn.get 41=some Tryz.f41:=by kernel_rfl
theorem Vz:TE.fn.get 42=some Tryz.f42:=by kernel_rfl
theorem Vy:TE.fn.get 43=some Tryz.f43:=by kernel_rfl
theorem Vx:TE.fn.get 44=some Tryz.f44:=by kernel_rfl
theorem Vw:TE.fn.get 45=some Tryz.f45:=by kernel_rfl
theorem Vv:TE.fn.get 52=some Tryz.f52:=by kernel_rfl
theorem Vu:TE.fn.get 53=some Tryz.f53:=by kernel_rfl
theorem Vt:TE.fn.get 54=some Tryz.f54:=by kernel_rfl
theorem Vs:TE.fn.get 57=some Tryz.f57:=by kernel_rfl
theorem Vr:TE.fn.get 59=some Tryz.f59:=by kernel_rfl
theorem Vq:TE.fn.get 60=some Tryz.f60:=by kernel_rfl
theorem Vp:TE.fn.get 61=some Tryz.f61:=by kernel_rfl
theorem Vo:TE.fn.get 66=some Tryz.f66:=by kernel_rfl
theorem Vn:TE.fn.get 67=some Tryz.f67:=by kernel_rfl
theorem Vm:TE.fn.get 68=some Tryz.f68:=by kernel_rfl
theorem Vl:TE.fn.get 81=some Tryz.f81:=by kernel_rfl
theorem Vk:TE.fn.get 82=some Tryz.f82:=by kernel_rfl
theorem Vj:TE.fn.get 95=some Tryz.f95:=by kernel_rfl
theorem Vi:TE.fn.get 96=some Tryz.f96:=by kernel_rfl
theorem Vh:TE.fn.get 98=some Tryz.f98:=by kernel_rfl
theorem Vg:TE.fn.get 99=some Tryz.f99:=by kernel_rfl
theorem SU:TE.fn.get 102=some Tryz.f102:=by kernel_rfl
theorem SS:TE.fn.get 108=some Tryz.f108:=by kernel_rfl
theorem SR:TE.fn.get 111=some Tryz.f111:=by kernel_rfl
theorem SQ:TE.fn.get 116=some Tryz.f116:=by kernel_rfl
theorem SP:TE.fn.get 118=some Tryz.f118:=by kernel_rfl
theorem SO:TE.fn.get 119=some Tryz.f119:=by kernel_rfl
theorem SN:TE.fn.get 120=some Tryz.f120:=by kernel_rfl
theorem SM:TE.fn.get 127=some Tryz.f127:=by kernel_rfl
theorem SL:TE.fn.get 128=some Tryz.f128:=by kernel_rfl
theorem SK:TE.fn.get 129=some Tryz.f129:=by kernel_rfl
theorem SJ:TE.fn.get 130=some Tryz.f130:=by kernel_rfl
theorem SI:TE.fn.get 131=some Tryz.f131:=by kernel_rfl
theorem SH:TE.fn.get 132=some Tryz.f132:=by kernel_rfl
theorem SG:TE.fn.get 133=some Tryz.f133:=by kernel_rfl
theorem SF:TE.fn.get 134=some Tryz.f134:=by kernel_rfl
theorem SE:TE.fn.get 135=some Tryz.f135:=by kernel_rfl
theorem SD:TE.fn.get 136=some Tryz.f136:=by kernel_rfl
theorem SC:TE.fn.get 138=some Tryz.f138:=by kernel_rfl
theorem SB:TE.fn.get 143=some Tryz.f143:=by kernel_rfl
theorem Eg:TE.fn.get 153=some Tryz.f153:=by kernel_rfl
theorem SA:TE.fn.get 154=some Tryz.f154:=by kernel_rfl
theorem Sz:TE.fn.get 155=some Tryz.f155:=by kernel_rfl
theorem Mv:TE.fn.get 156=some Tryz.f156:=by kernel_rfl
theorem Sy:TE.fn.get 157=some Tryz.f157:=by kernel_rfl
theorem Sx:TE.fn.get 158=some Tryz.f158:=by kernel_rfl
theorem Sw:TE.fn.get 159=some Tryz.f159:=by kernel_rfl
theorem Sv:TE.fn.get 160=some Tryz.f160:=by kernel_rfl
theorem Su:TE.fn.get 166=some Tryz.f166:=by kernel_rfl
theorem Ss:TE.fn.get 167=some Tryz.f167:=by kernel_rfl
theorem Sr:TE.fn.get 175=some Tryz.f175:=by kernel_rfl
theorem Mu:TE.fn.get 176=some Tryz.f176:=by kernel_rfl
theorem Sq:TE.fn.get 177=some Tryz.f177:=by kernel_rfl
theorem Sp:TE.fn.get 178=some Tryz.f178:=by kernel_rfl
theorem So:TE.fn.get 179=some Tryz.f179:=by kernel_rfl
theorem Sn:TE.fn.get 180=some Tryz.f180:=by kernel_rfl
theorem Sm:TE.fn.get 186=some Tryz.f186:=by kernel_rfl
theorem Sk:TE.fn.get 188=some Tryz.f188:=by kernel_rfl
theorem Sj:TE.fn.get 189=some Tryz.f189:=by kernel_rfl
theorem Si:TE.fn.get 190=some Tryz.f190:=by kernel_rfl
theorem Sh:TE.fn.get 191=some Tryz.f191:=by kernel_rfl
theorem Sf:TE.fn.get 210=some Tryz.f210:=by kernel_rfl
theorem Se:TE.fn.get 211=some Tryz.f211:=by kernel_rfl
theorem Sd:TE.fn.get 212=some Tryz.f212:=by kernel_rfl
theorem Sc:TE.fn.get 213=some Tryz.f213:=by kernel_rfl
theorem Sb:TE.fn.get 214=some Tryz.f214:=by kernel_rfl
theorem Sa:TE.fn.get 237=some Tryz.f237:=by kernel_rfl
theorem R9:TE.fn.get 238=some Tryz.f238:=by kernel_rfl
theorem R8:TE.fn.get 239=some Tryz.f239:=by kernel_rfl
theorem R7:TE.fn.get 240=some Tryz.f240:=by kernel_rfl
theorem Mt:TE.fn.get 241=some Tryz.f241:=by kernel_rfl
theorem Ms:TE.fn.get 242=some Tryz.f242:=by kernel_rfl
theorem R6:TE.fn.get 247=some Tryz.f247:=by kernel_rfl
theorem R5:TE.fn.get 248=some Tryz.f248:=by kernel_rfl
theorem R4:TE.fn.get 249=some Tryz.f249:=by kernel_rfl
theorem R3:TE.fn.get 250=some Tryz.f250:=by kernel_rfl
theorem Mr:TE.fn.get 251=some Tryz.f251:=by kernel_rfl
theorem Mq:TE.fn.get 252=some Tryz.f252:=by kernel_rfl
theorem R2:TE.fn.get 253=some Tryz.f253:=by kernel_rfl
theorem Mp:TE.fn.get 257=some Tryz.f257:=by kernel_rfl
theorem R1:TE.fn.get 260=some Tryz.f260:=by kernel_rfl
theorem R0:TE.fn.get 261=some Tryz.f261:=by kernel_rfl
theorem RZ:TE.fn.get 262=some Tryz.f262:=by kernel_rfl
theorem Ee:TE.fn.get 263=some Tryz.f263:=by kernel_rfl
theorem RY:TE.fn.get 264=some Tryz.f264:=by kernel_rfl
theorem RX:TE.fn.get 266=some Tryz.f266:=by kernel_rfl
theorem RW:TE.fn.get 267=some Tryz.f267:=by kernel_rfl
theorem Ed:TE.fn.get 268=some Tryz.f268:=by kernel_rfl
theorem RV:TE.fn.get 269=some Tryz.f269:=by kernel_rfl
theorem RU:TE.fn.get 272=some Tryz.f272:=by kernel_rfl
theorem RT:TE.fn.get 273=some Tryz.f273:=by kernel_rfl
theorem RS:TE.fn.get 275=some Tryz.f275:=by kernel_rfl
theorem RQ:TE.fn.get 276=some Tryz.f276:=by kernel_rfl
theorem Mo:TE.fn.get 277=some Tryz.f277:=by kernel_rfl
theorem Mn:TE.fn.get 278=some Tryz.f278:=by kernel_rfl
theorem RO:TE.fn.get 279=some Tryz.f279:=by kernel_rfl
theorem RN:TE.fn.get 280=some Tryz.f280:=by kernel_rfl
theorem Mm:TE.fn.get 282=some Tryz.f282:=by kernel_rfl
theorem Ml:TE.fn.get 283=some Tryz.f283:=by kernel_rfl
theorem Mj:TE.fn.get 285=some Tryz.f285:=by kernel_rfl
theorem RM:TE.fn.get 289=some Tryz.f289:=by kernel_rfl
theorem RL:TE.fn.get 301=some Tryz.f301:=by kernel_rfl
theorem RJ:TE.fn.get 302=some Tryz.f302:=by kernel_rfl
theorem RI:TE.fn.get 317=some Tryz.f317:=by kernel_rfl
theorem RH:TE.fn.get 320=some Tryz.f320:=by kernel_rfl
theorem RG:TE.fn.get 321=some Tryz.f321:=by kernel_rfl
theorem RE:TE.fn.get 322=some Tryz.f322:=by kernel_rfl
theorem RD:TE.fn.get 323=some Tryz.f323:=by kernel_rfl
theorem RC:TE.fn.get 324=some Tryz.f324:=by kernel_rfl
theorem RB:TE.fn.get 325=some Tryz.f325:=by kernel_rfl
theorem RA:TE.fn.get 326=some Tryz.f326:=by kernel_rfl
theorem Rz:TE.fn.get 329=some Tryz.f329:=by kernel_rfl
theorem Ry:TE.fn.get 359=some Tryz.f359:=by kernel_rfl
theorem Rx:TE.fn.get 360=some Tryz.f360:=by kernel_rfl
theorem Rw:TE.fn.get 361=some Tryz.f361:=by kernel_rfl
theorem Rv:TE.fn.get 362=some Tryz.f362:=by kernel_rfl
theorem Ru:TE.fn.get 364=some Tryz.f364:=by kernel_rfl
theorem Rt:TE.fn.get 379=some Tryz.f379:=by kernel_rfl
end
section
abbrev δ:=λ(W:Words) a b c=>W.aj (ah TE a b c)
abbrev ε:=λ(W:Words) a b c=>W.aj (af TE a b c)
abbrev ζ:=λ(W:Words) a b c=>W.aj (ak TE a b c)
abbrev η:=λ(W:Words) a b c d=>W.aj (aw TE a b c d)
abbrev θ:=λ(W:Words) a b=>W.aj (aR TE a b)
abbrev ι:=λ(W:Words) a b c d=>W.aT (aA TE a b c d)
abbrev κ:=λ(W:Words) a b c d=>W.aT (av TE a b c d)
abbrev ν:=λ(W:Words) a b c d=>W.aT (aK TE a b c d)
abbrev ξ:=λ(W:Words) a b=>W.aj (bF a b)
abbrev ο:=λ(W:Words) a b=>W.aj (gU a b)
abbrev ς:=λ(W:Words) (m:M) (x:aed) (t:Nat)=>W.bZ (M.push m (.cells (cells x) t none))
abbrev υ:=λ(W:Words) (m:M) (l:aee) (t:Nat)=>W.bZ (M.push m (.cells l t none))
abbrev φ:=λm:M=>ptrTo m.n
abbrev χ:=Value.int .i64
abbrev ψ:=λ(W:Words) (f:Nat)=>W.bt (.func f)
section
variable {W:Words}{x0 x1 x2 x3 x4 x5 x6 x7:aed}{m:M}{R RP:aee->M->Nat->Prop}{CP:Fn->aee->M->(M->Nat->Prop)->Prop}
theorem YV:dm TE W Tryz.f211 [x0,x1] m R=ψ W 301 [x0,x1] m λa b c=>η W .geq 3 a (χ 0) λa=>R [a] b (min m.n c):=by kernel_rfl
theorem YU:dm TE W Tryz.f212 [x0] m R=ς W m x0 98 λa=>W.jn (λb=>ε W 98 (φ m) 0 λc=>δ W a 3 c λc=>ε W 98 (φ m) 1 λd=>δ W a 3 d λd=>κ W a .min [3,3] [c,d] λc _=>η W .lss 3 c (χ 0) λc=>bD c (b [aeh] a m.n) (ε W 98 (φ m) 0 λc=>δ W a 3 c λc=>ε W 98 (φ m) 1 λd=>δ W a 3 d λd=>κ W a .max [3,3] [c,d] λc _=>η W .gtr 3 c (χ 40) λc=>b [c] a m.n)) (λa b c=>W.un a λa _=>R [a] b c):=by kernel_rfl
theorem Zh:dm TE W Tryz.f159 [x0,x1,x2] m R=ς W m x0 98 λa=>ς W a x1 98 λb=>ς W b x2 98 λc=>ε W 98 (φ a) 0 λd=>δ W c 3 d λd=>ε W 98 (φ m) 0 λf=>δ W c 3 f λf=>η W .sub 3 d f λd=>ε W 98 (φ b) 1 λf=>δ W c 3 f λf=>ε W 98 (φ m) 1 λg=>δ W c 3 g λg=>η W .sub 3 f g λf=>η W .mul 3 d f λd=>ε W 98 (φ a) 1 λa=>δ W c 3 a λa=>ε W 98 (φ m) 1 λf=>δ W c 3 f λf=>η W .sub 3 a f λa=>ε W 98 (φ b) 0 λb=>δ W c 3 b λb=>ε W 98 (φ m) 0 λf=>δ W c 3 f λf=>η W .sub 3 b f λb=>η W .mul 3 a b λa=>η W .sub 3 d a λa=>R [a] c m.n:=by kernel_rfl
theorem Zj:dm TE W Tryz.f157 [x0] m R=W.jn (λa=>κ W m .len [45] [x0] λb _=>η W .lss 3 b (χ 3) λb=>bD b (a [aeh] m m.n) (κ W m .len [45] [x0] λb _=>η W .gtr 3 b (χ 8) λb=>bD b (a [aeh] m m.n) (ψ W 211 [x0,.func (.func 212) #[] #[]] m λb c d=>a [b] c (min m.n d)))) (λa b c=>W.un a λa _=>bD a (R [aei] b c) (κ W b .len [45] [x0] λa _=>W.Lp (λb c d f=>W.un c λc g=>W.un g λg _=>η W .lss 3 g a λa=>bD a (ζ W 45 x0 g λa=>δ W d 98 a λa=>υ W d [χ 0,χ 0] 98 λh=>ι W h 98 (φ d) a λa h=>η W .add 3 g (χ 1) λi=>κ W a .len [45] [x0] λj _=>η W .rem 3 i j λi=>κ W a .len [45] [x0] λj _=>W.Lp (λa c f h=>W.un c λc k=>W.un k λk _=>η W .lss 3 k j λj=>bD j (ζ W 45 x0 k λb=>δ W f 98 b λb=>υ W f [χ 0,χ 0] 98 λj=>ι W j 98 (φ f) b λb j=>W.jn (λa=>η W .neq 3 k g λc=>bD c (η W .neq 3 k i λc=>bD c (δ W b 98 (φ d) λc=>ζ W 45 x0 i λd=>δ W b 98 d λd=>δ W b 98 (φ f) λf=>ψ W 159 [c,d,f] b λb c d=>η W .leq 3 b (χ 0) λb=>a [b] c (min (min h j) d)) (a [aei] b (min h j))) (a [aei] b (min h j))) (λb d f=>W.un b λb _=>bD b (R [aei] d f) (η W .add 3 k (χ 1) λb=>a [c,b] d f))) (η W .add 3 g (χ 1) λa=>b [c,a] f h)) [c,χ 0] a (min f h)) (R [aeh] d f)) [aei,χ 0] b c)):=by kernel_rfl
theorem Zi:dm TE W Tryz.f158 [x0] m R=ς W m x0 45 λa=>R [.func (.func 213) #[] #[φ m]] a m.n:=by kernel_rfl
theorem YT:dm TE W Tryz.f213 [x0,x1] m R=δ W m 45 x1 λa=>κ W m .len [45] [a] λb _=>W.Lp (λc d f g=>W.un d λd _=>η W .lss 3 d b λb=>bD b (ζ W 45 a d λa=>δ W f 98 a λa=>υ W f [χ 0,χ 0] 98 λb=>ι W b 98 (φ f) a λa b=>δ W a 98 (φ f) λf=>δ W a 45 x1 λh=>η W .add 3 d (χ 1) λi=>δ W a 45 x1 λj=>κ W a .len [45] [j] λj _=>η W .rem 3 i j λi=>ζ W 45 h i λh=>δ W a 98 h λh=>jN x0 λi j k=>W.bt i (j.toList++([f,h]++k.toList)) a λa f h=>ο W .not a λa=>bD a (R [] f (min (min g b) h)) (η W .add 3 d (χ 1) λa=>c [a] f (min (min g b) h))) (R [] f g)) [χ 0] m m.n:=by kernel_rfl
theorem Y7:dm TE W Tryz.f186 [x0,x1] m R=ψ W 289 [x0] m λa b c=>ψ W 289 [x1] b λb d f=>bD a (bD b (R [χ 0] d (min (min m.n c) f)) (R [χ (-1)] d (min (min m.n c) f))) (bD b (R [χ 1] d (min (min m.n c) f)) (η W .lss 3 x0 x1 λa=>bD a (R [χ (-1)] d (min (min m.n c) f)) (η W .gtr 3 x0 x1 λa=>bD a (R [χ 1] d (min (min m.n c) f)) (R [χ 0] d (min (min m.n c) f))))):=by kernel_rfl
theorem Yl:dm TE W Tryz.f289 [x0] m R=η W .neq 3 x0 x0 λa=>R [a] m m.n:=by kernel_rfl
theorem Y9:dm TE W Tryz.f179 [x0,x1] m R=ς W m x1 98 λa=>υ W a [χ 0] 3 λb=>ι W b 3 (φ a) (χ 4611686018427387903) λb c=>ψ W 158 [x0] b λb d f=>jN b λb g h=>W.RF b g.toList h.toList d (min (min m.n c) f) (λb c f=>W.un b λb g=>W.un g λg h=>W.II h (υ W c [χ 0,χ 0] 98 λh=>ι W h 98 (φ c) b λb h=>υ W b [χ 0,χ 0] 98 λi=>ι W i 98 (φ b) g λg i=>W.QY d.n c g λg=>δ W g 3 (φ a) λj=>δ W g 98 (φ c) λk=>δ W g 98 (φ b) λb=>δ W g 98 (φ m) λl=>ψ W 159 [k,b,l] g λb k l=>(g.n<=l)/\(κ W k .min [3,3] [j,b] λb _=>ι W k 3 (φ a) b λa b=>f g .normal a (min (min (min (min (min c.n h) i) d.n) l) b)))) (λb c=>δ W b 3 (φ a) λa=>ψ W 186 [a,χ 0] b λa b d=>R [a] b (min c d)) []:=by kernel_rfl
theorem Zy:dm TE W Tryz.f119 [x0,x1,x2] m R=W.jn (λa=>ψ W 157 [x0] m λb c d=>ο W .not b λb=>bD b (a [aeh] c (min m.n d)) (κ W c .min [3,3] [x1,x2] λb _=>η W .lss 3 b (χ 0) λb=>bD b (a [aeh] c (min m.n d)) (κ W c .max [3,3] [x1,x2] λb _=>η W .geq 3 b (χ 40) λb=>a [b] c (min m.n d)))) (λa b c=>W.un a λa _=>bD a (R [χ (-1)] b c) (ψ W 155 [x0] b λa b d=>κ W b .len [45] [a] λf _=>W.Lp (λb c d g=>W.un c λc _=>η W .lss 3 c f λf=>bD f (ζ W 45 a c λf=>ε W 98 f 0 λf=>δ W d 3 f λf=>η W .mul 3 f (χ 2) λf=>ζ W 45 a c λh=>ε W 98 h 0 λh=>ι W d 3 h f λd f=>ζ W 45 a c λh=>ε W 98 h 1 λh=>δ W d 3 h λh=>η W .mul 3 h (χ 2) λh=>ζ W 45 a c λa=>ε W 98 a 1 λa=>ι W d 3 a h λa d=>η W .add 3 c (χ 1) λc=>b [c] a (min (min g f) d)) (η W .mul 3 (χ 2) x1 λb=>η W .add 3 b (χ 1) λb=>η W .mul 3 (χ 2) x2 λc=>η W .add 3 c (χ 1) λc=>θ W 98 [(0,b),(1,c)] λb=>ψ W 179 [a,b] d λa b c=>R [a] b (min g c))) [χ 0] b (min c d))):=by kernel_rfl
theorem Zk:dm TE W Tryz.f155 [x0] m R=η W .eql 45 x0 aeg λa=>bD a (R [aeg] m m.n) (ν W m 45 0 [] λa b=>κ W (M.wl b b.n) .append [45,45] [a,x0] λa b=>R [a] b (min m.n (M.low b))):=by kernel_rfl
end
end
section
structure cV(X:aG):Prop where
 no:∀f,(Nat.beq f 8 ||Nat.beq f 79 ||Nat.beq f 144 ||Nat.beq f 141 ||Nat.beq f 77 ||Nat.beq f 103 ||Nat.beq f 367 ||Nat.beq f 183 ||Nat.beq f 362 ||Nat.beq f 280 ||Nat.beq f 365 ||Nat.beq f 117)=false->IQ X f
abbrev C(X:aG):=Cl TE X
structure Pl where
 x:Int
 y:Int
deriving DecidableEq
def Pl.c(p:Pl):aee:=[.int .i64 p.x,.int .i64 p.y]
abbrev Pl.v(p:Pl):aed:=.agg #[.int .i64 p.x,.int .i64 p.y]
instance:aP Pl where
 ty:=98
 sz:=2
 agg:=true
 fx:=[]
 rep _ p cs:=cs=p.c
 pos:=by decide
 one:=by intro h;cases h
 len:=by rintro _ _ _ rfl;rfl
 kN:=by rintro _ _ _ rfl;rfl
 bH:=by rintro _ _ _ _ rfl _;rfl
theorem dS:uF TE 45 98 Pl:=⟨ag.t45,ag.t98,by kernel_rfl,⟨_,rfl⟩,rfl,by kernel_rfl,rfl,rfl⟩
theorem xA:AF TE 45 Pl:=⟨ag.t45,ag.t98,by kernel_rfl,rfl,rfl,by kernel_rfl,by decide,rfl⟩
instance:aP Int where
 ty:=3
 sz:=1
 agg:=false
 fx:=[]
 rep _ n cs:=cs=[.int .i64 n]
 pos:=by decide
 one:=by intro _;rfl
 len:=by rintro _ _ _ rfl;rfl
 kN:=by rintro _ _ _ rfl;rfl
 bH:=by rintro _ _ _ _ rfl _;rfl
theorem lC:uF TE 25 3 Int:=⟨ag.t25,ag.t3,by kernel_rfl,⟨_,rfl⟩,rfl,by kernel_rfl,rfl,rfl⟩
theorem Pz:AF TE 25 Int:=⟨ag.t25,ag.t3,by kernel_rfl,rfl,rfl,by kernel_rfl,by decide,rfl⟩
def idx{α:Type}(p:α->Bool):List α->Int
 |[]=> -1
 |x::l=>if p x then 0 else match idx p l with |.ofNat n=>n+1 |.negSucc _=> -1
theorem jj{α:Type}(p:α->Bool):∀l:List α,(idx p l= -1/\∀x∈l,p x=false)\/(∃i x,idx p l=(i:Nat)/\l[i]?=some x/\p x=true/\∀j y,j < i->l[j]?=some y->p y=false)
 |[]=> .inl ⟨rfl,λ_ h=>by cases h⟩
 |x::l=>by
  cases hp:p x with
  |true=>exact .inr ⟨0,x,by simp[idx,hp],rfl,hp,λj y hj=>by omega⟩
  |false=>
   rcases jj p l with⟨h1,h2⟩ |⟨i,y,h1,h2,h3,h4⟩
   ·refine .inl ⟨by simp only[idx,hp,h1];rfl,λz F=>?_⟩
    rcases aaS.1 F with rfl |F
    ·exact hp
    ·exact h2 z F
   ·refine .inr ⟨i+1,y,by simp only[idx,hp,h1];rfl,by simpa using h2,h3,λj z hj F=>?_⟩
    cases j with
    |zero=>simp at F;subst F;exact hp
    |succ j=>exact h4 j z (by omega) (by simpa using F)
theorem OI{α:Type}{p:α->Bool}{l:List α}{i:Nat}{x:α}(hx:l[i]?=some x)(hp:p x=true)(h:∀j y,j < i->l[j]?=some y->p y=false):idx p l=i:=by
 rcases jj p l with⟨h1,h2⟩ |⟨k,y,h1,h2,h3,h4⟩;·rw[h2 x (aac hx)]at hp;cases hp
 have:i=k:=by
  rcases abS i k with F |he |F;·rw[h4 i x F hx]at hp;cases hp
  ·exact he
  rw[h k y F h2]at h3;cases h3
 rw[h1,this]
theorem Li{α:Type}{p:α->Bool}{l:List α}(h:∀x∈l,p x=false):idx p l= -1:=by
 rcases jj p l with⟨F,h2⟩ |⟨k,y,F,h2,h3,h4⟩;·exact F
 rw[h y (aac h2)]at h3;cases h3
theorem qv{α:Type}{p:α->Bool}{l:List α}:decide (0<=idx p l)=l.any p:=by
 rcases jj p l with⟨F,h2⟩ |⟨k,y,F,h2,h3,h4⟩
 ·rw[F];have:l.any p=false:=by rw[abF];intro x hx;rw[h2 x hx];simp
  rw[this];rfl
 have:l.any p=true:=ace.2 ⟨y,aac h2,h3⟩;rw[this,F];simp
abbrev DY(T t:TypeId)(W:Words)(x0 x1:aed)(m:M)(R:aee->M->Nat->Prop):Prop:=
(W.aT (av TE m .len [T] [x0]) λv1 _=>(W.Lp (λP2 d0 m4 F=>W.un d0 λv6 r7=>W.un r7 λv8 r9=>(W.aj (aw TE .lss 3 v8 v1) λv10=>(bD v10
(W.aj (ak TE T x0 v8) λv11=>(W.aj (ah TE m4 t v11) λv12=>(jN x1 λg13 f14 e0=>(W.bt g13 (f14.toList++([v12]++e0.toList)) m4 λg0 a0 b0=>(bD g0
(R [v8] a0 (min F b0))
(W.aj (aw TE .add 3 v8 (.int .i64 1)) λh0=>(P2 [v6,h0] a0 (min F b0))))))))
(R [.int .i64 (-1)] m4 F)))) [.int .i64 0,.int .i64 0] m (M.n m)))
theorem OJ{W:Words}{x0 x1:aed}{m:M}{R:aee->M->Nat->Prop}:dm TE W Tryz.f301 [x0,x1] m R=DY 45 98 W x0 x1 m R:=by kernel_rfl
theorem Lj{W:Words}{x0 x1:aed}{m:M}{R:aee->M->Nat->Prop}:dm TE W Tryz.f143 [x0,x1] m R=DY 25 3 W x0 x1 m R:=by kernel_rfl
theorem HE{W:Words}{x0 x1:aed}{m:M}{R:aee->M->Nat->Prop}:dm TE W Tryz.f138 [x0,x1] m R=DY 29 87 W x0 x1 m R:=by kernel_rfl
theorem Aa{X:aG}{T t:TypeId}{α:Type}[aP α](hT:uF TE T t α){m:M}{l:List α}{v:aed}{g:Fn}{fi ca:Array aed}{R:aee->M->Nat->Prop}(J:Nat->M->Nat->Prop)(b0:Nat->M->Nat->Prop)(p:Nat->Bool)(hb:l.length < 4611686018427387904)
  (hl:∀i m lo,J i m lo->Sl m l v)
  (hs:∀i x m1 F,l[i]?=some x->J i m1 F->∀cs,aP.rep m1 x cs->∃b m2,C X g (fi.toList++([aP.val α cs]++ca.toList)) m1 b (.bool (p i)) m2/\(p i=true->b0 i m2 (min F b))/\(p i=false->J (i+1) m2 (min F b)))
  (h0:J 0 m m.n) (d0:∀i m2 nz,i < l.length->p i=true->b0 i m2 nz->R [.int .i64 i] m2 nz) (e0:∀m2 nz,J l.length m2 nz->R [.int .i64 (-1)] m2 nz):
  DY T t (aI TE X) v (.func g fi ca) m R:=by
 dsimp only[DY,aI];rw[(hl 0 m m.n h0).len hT,aE];refine Lp.intro (γ:=Nat) (λi=>l.length-i) (λi vs m lo=>∃w,vs=[w,.int .i64 i]/\i<=l.length/\J i m lo) 0 ⟨_,rfl,aaQ _,h0⟩ ?_;rintro i vs m1 F ⟨w,rfl,hi,hJ⟩;simp only[aH,aX,ae,an];refine aq (λh=>?_) (λh=>?_)
 ·have a0:i < l.length:=by simpa using h
  have hx:l[i]?=some l[i]:=Φ a0;obtain⟨a,cs,e1,e2,hr⟩:=(hl i m1 F hJ).index hT (k:=.i64) hx;rw[e1,ae,e2,ae,bY];obtain⟨b,m2,hc,g0,i0⟩:=hs i _ m1 F hx hJ cs hr;refine az hc ?_;rw[an];refine aq (λhp=>?_) (λhp=>?_);·exact d0 i _ _ a0 hp (g0 hp)
  simp only[aQ,ae];refine⟨i+1,by omega,w,?_,a0,i0 hp⟩;rw[wrap64 (by omega) (by omega)];rfl
 have j0:i=l.length:=by
  have:¬((i:Int)< (l.length:Int)):=by simpa using h
  omega
 subst j0;exact e0 _ _ hJ
theorem ki{X:aG}{T t:TypeId}{α:Type}[aP α](hT:uF TE T t α){f:Nat}{fn:Func}(hX:IQ X f)(hf:TE.fn.get f=some fn)(hn:Nat.ble 2 fn.ntmps=true)
  (hF:∀{W:Words} {x0 x1:aed} {m:M} {R:aee->M->Nat->Prop},dm TE W fn [x0,x1] m R=DY T t W x0 x1 m R)
  {m:M} {l:List α} {v:aed} {g:Fn} {fi ca:Array aed} (p:α->Bool) (hb:l.length < 4611686018427387904) (hl:Sl m l v)
  (hs:∀x∈l,∀cs,aP.rep m x cs->C X g (fi.toList++([aP.val α cs]++ca.toList)) m m.n (.bool (p x)) m):
  C X (.func f) [v,.func g fi ca] m m.n (.int .i64 (idx p l)) m:=by
 refine Cl.flat hX hf hn rfl ?_;rw[hF];refine Aa hT (l:=l) (λi m1 lo=>m1=m/\lo=m.n/\∀j x,j < i->l[j]?=some x->p x=false) (λi m1 lo=>m1=m/\lo=m.n/\(∀j x,j < i->l[j]?=some x->p x=false)) (λi=>match l[i]? with |some x=>p x |none=>false) hb ?_ ?_ ⟨rfl,rfl,λj x hj=>by omega⟩ ?_ ?_;·rintro i m1 lo ⟨rfl,_,_⟩;exact hl
 ·rintro i x m1 lo F ⟨rfl,rfl,hJ⟩ cs hr;rw[F];refine⟨_,_,hs x (aac F) cs hr,λ_=>⟨rfl,acQ _,hJ⟩,λhp=>⟨rfl,acQ _,λj y hj hy=>?_⟩⟩;by_cases e:j=i;·subst e;rw[F]at hy;cases hy;exact hp
  exact hJ j y (by omega) hy
 ·rintro i m2 nz a0 hp ⟨rfl,rfl,hJ⟩;have F:l[i]?=some l[i]:=Φ a0;rw[F]at hp;exact⟨by rw[aO,OI F hp hJ],Ξ _⟩
 rintro m2 nz ⟨rfl,rfl,hJ⟩;exact⟨by rw[aO,Li λx F=>by obtain⟨j,hj⟩:=abU.1 F;exact hJ j x (Ω.1 hj).1 hj],Ξ _⟩
theorem DW{X:aG}(F:cV X){m:M}{l:List Pl}{v:aed}{g:Fn}{fi ca:Array aed}(p:Pl->Bool)(hb:l.length < 4611686018427387904)(hl:Sl m l v)
  (hs:∀x∈l,C X g (fi.toList++([x.v]++ca.toList)) m m.n (.bool (p x)) m):C X (.func 301) [v,.func g fi ca] m m.n (.int .i64 (idx p l)) m:=
 ki dS (F.no _ rfl) RL rfl OJ p hb hl λx hx cs hr=>by rw[show cs=x.c from hr];exact hs x hx
theorem lX{X:aG}(F:cV X){m:M}{l:List Pl}{v:aed}{g:Fn}{fi ca:Array aed}(p:Pl->Bool)(hb:l.length < 4611686018427387904)(hl:Sl m l v)
  (hs:∀x∈l,C X g (fi.toList++([x.v]++ca.toList)) m m.n (.bool (p x)) m):C X (.func 211) [v,.func g fi ca] m m.n (.bool (l.any p)) m:=by refine Cl.flat (F.no _ rfl) Se rfl rfl ?_;rw[show dm TE (aI TE X) Tryz.f211 _ m _=_ from YV];dsimp only[aI,η,χ,ψ];refine az (DW F p hb hl hs) ?_;simp only[cO,ae,qv,aO];exact⟨trivial,by omega⟩
end
section
variable {X:aG} {m:M}
theorem cG{G:(aee->M->Nat->Prop)->Prop}{k:aee->M->Nat->Prop}(Q:aee->M->Nat->Prop)(F:∀R:aee->M->Nat->Prop,(∀vs m lo,Q vs m lo->R vs m lo)->G R)(h2:∀vs m lo,Q vs m lo->k vs m lo):jn G k:=F k h2
theorem iQ{k:IntKind}{a b:Int}{ts:List TypeId}:av TE m .min ts [.int k a,.int k b]=some (.int k (min a b),m):=by
 show some (Value.int k (if b < a then b else a),m)=_
 congr 2
 congr 1
 split <;>omega
theorem lJ{k:IntKind}{a b:Int}{ts:List TypeId}:av TE m .max ts [.int k a,.int k b]=some (.int k (max a b),m):=by
 show some (Value.int k (if b >a then b else a),m)=_
 congr 2
 congr 1
 split <;>omega
theorem iR{b:Nat}{p:Pl}{e:TypeId}{g:Option Nat}(h:m.get b=.cells p.c e g):ah TE m 98 (aeb b 0)=some p.v:=by rw[Fx,aJ h (by simp[Pl.c])];rfl
def dL(a b c:Pl):Int:=(b.x-a.x)*(c.y-a.y)-(b.y-a.y)*(c.x-a.x)
def PS(x:Int):Int:=IntKind.i64.wrap x
def EW(a b c:Pl):Int:=PS (PS (PS (b.x-a.x)*PS (c.y-a.y))-PS (PS (b.y-a.y)*PS (c.x-a.x)))
theorem NS(hX:cV X)(a b c:Pl):C X (.func 159) [a.v,b.v,c.v] m m.n (.int .i64 (EW a b c)) m:=by refine Cl.flat (hX.no _ rfl) Sw rfl rfl ?_;rw[Zh];dsimp only[aI,δ,ε,η,ς,φ];refine au λm1 g0 b0 h0=>?_;refine au λm2 i0 d0 e0=>?_;refine au λm3 j0 F a0=>?_;have g1:=(a0 m.n (by omega)).trans ((e0 m.n (by omega)).trans b0);have g2:=(a0 m1.n (by omega)).trans d0;simp only[bB]at g1 g2 F;simp only[ae,aE,bY,an,bU,aM,dj,aX,cO,dq,aY,da,bM,ptrTo,bT,dF,aaq,Nat.reduceAdd,aad,aah,aa0,aaT,aa6,abi,aag,bB,ee,dJ,dw,ec,ed,dI,cf,ck,cd,aF g1,aF g2,aF F,fB,ej];exact⟨rfl,Ξ _⟩
def Pl.sm(N:Int)(p:Pl):Prop:= -N<=p.x/\p.x<=N/\ -N<=p.y/\p.y<=N
theorem pf{a b N:Int}(ha: -N<=a)(F:a<=N)(hb: -N<=b)(a0:b<=N): -(N*N)<=a*b/\a*b<=N*N:=by
 have h0:0<=N:=by omega
 have h1:0<=(N-a)*(N+b):=abA (by omega) (by omega);have h2:0<=(N+a)*(N-b):=abA (by omega) (by omega);have h3:0<=(N-a)*(N-b):=abA (by omega) (by omega);have h4:0<=(N+a)*(N+b):=abA (by omega) (by omega);constructor <;>grind
theorem AT{a b c:Pl}(F:a.sm 1000000)(hb:b.sm 1000000)(hc:c.sm 1000000):EW a b c=dL a b c:=by obtain⟨a1,a2,a3,a4⟩:=F;obtain⟨b1,b2,b3,b4⟩:=hb;obtain⟨c1,c2,c3,c4⟩:=hc;have p:=pf (a:=b.x-a.x) (b:=c.y-a.y) (N:=2000000) (by omega) (by omega) (by omega) (by omega);have q:=pf (a:=b.y-a.y) (b:=c.x-a.x) (N:=2000000) (by omega) (by omega) (by omega) (by omega);unfold EW dL PS;rw[wrap64 (x:=b.x-a.x) (by omega) (by omega),wrap64 (x:=c.y-a.y) (by omega) (by omega),wrap64 (x:=b.y-a.y) (by omega) (by omega),wrap64 (x:=c.x-a.x) (by omega) (by omega)];rw[wrap64 (x:=(b.x-a.x)*(c.y-a.y)) (by omega) (by omega),wrap64 (x:=(b.y-a.y)*(c.x-a.x)) (by omega) (by omega),wrap64 (by omega) (by omega)]
def Pl.off(p:Pl):Bool:=decide (min p.x p.y < 0) ||decide (40 < max p.x p.y)
theorem Pl.on{p:Pl}(h:p.off=false):0<=p.x/\p.x<=40/\0<=p.y/\p.y<=40:=by simp only[Pl.off,abQ,aby]at h;omega
theorem Pl.KB{p:Pl}(h:p.off=false):p.sm 1000000:=by have:=Pl.on h;exact⟨by omega,by omega,by omega,by omega⟩
theorem BX(hX:cV X)(p:Pl):C X (.func 212) [p.v] m m.n (.bool p.off) m:=by
 refine Cl.flat (hX.no _ rfl) Sd rfl rfl ?_;rw[YU];dsimp only[aI,δ,ε,η,κ,ς,φ,χ];refine au λm1 a0 F b0=>?_;simp only[bB]at F;refine cG (λvs m2 lo=>vs=[.bool p.off]/\lo=m.n) (λR hR=>?_) ?_
 ·simp only[ae,aE,bY,an,bU,aM,dj,aX,cO,dq,aY,da,bM,ptrTo,bT,dF,aaq,Nat.reduceAdd,aad,aah,aa0,aaT,aa6,abi,aag,bB,ee,dJ,dw,ec,ed,dI,cf,ck,cd,aF F,iQ,lJ];refine aq (λh=>hR _ _ _ ⟨by simp only[Pl.off,h];rfl,rfl⟩) (λh=>hR _ _ _ ⟨by simp only[Pl.off,h];rfl,rfl⟩)
 rintro _ m2 _ ⟨rfl,rfl⟩;rw[aH];exact⟨rfl,Ξ _⟩
def Dv(l:List Pl)(i:Nat):Bool:=match l[i]?,l[(i+1)%l.length]? with
 |some a,some b=>l.zipIdx.all λ(c,k)=>k==i ||k==(i+1)%l.length ||decide (0 < dL a b c)
 |_,_=>false
def mF(l:List Pl):Bool:=(List.range l.length).all (Dv l)
def bI(l:List Pl):Bool:=decide (3<=l.length) && decide (l.length<=8) && !(l.any Pl.off) && mF l
theorem cx{l:List Pl}(h:bI l=true):3<=l.length/\l.length<=8:=by simp only[bI,Ψ,aaC]at h;exact⟨h.1.1.1,h.1.1.2⟩
theorem kF{l:List Pl}(h:bI l=true):∀p∈l,p.off=false:=by simp only[bI,Ψ,aba,abF]at h;intro p F;simpa using h.1.2 p F
theorem qQ{l:List Pl}(h:bI l=true):∀p∈l,p.sm 1000000:=λp F=>Pl.KB (kF h p F)
theorem mQ{l:List Pl}{i:Nat}{a b:Pl}(ha:l[i]?=some a)(hb:l[(i+1)%l.length]?=some b):
  Dv l i=true↔∀k c,l[k]?=some c->k=i\/k=(i+1)%l.length\/0 < dL a b c:=by
 unfold Dv;rw[ha,hb];simp only[aay];constructor
 ·intro h k c F;have:=h (c,k) (by rw[abK];exact F);simpa[or_assoc]using this
 rintro h ⟨c,k⟩ F;rw[abK]at F;simpa[or_assoc]using h k c F
theorem CZ{l:List Pl}(h:bI l=true){i k:Nat}{a b c:Pl}(F:l[i]?=some a)(hb:l[(i+1)%l.length]?=some b)(hc:l[k]?=some c)(h1:k≠i)(h2:k≠(i+1)%l.length):0 < dL a b c:=by
 simp only[bI,Ψ,mF,aay,ab3]at h;have hr:=h.2 i (Ω.1 F).1;rcases(mQ F hb).1 hr k c hc with h |h |h;·exact absurd h h1
 ·exact absurd h h2
 exact h
end
section
variable {X:aG} {m:M}
theorem zA(F:cV X){a b c:Pl}(ha:a.sm 1000000)(hb:b.sm 1000000)(hc:c.sm 1000000):C X (.func 159) [a.v,b.v,c.v] m m.n (.int .i64 (dL a b c)) m:=by rw[<-AT ha hb hc];exact NS F a b c
theorem _root_.Go.D.Sl.nD{l:List Pl}{v:aed}(h:Sl m l v){i:Nat}{p:Pl}(hi:l[i]?=some p){k:IntKind}:∃a,ak TE 45 v (.int k i)=some a/\ah TE m 98 a=some p.v:=by obtain⟨a,cs,h1,F,h3⟩:=h.index dS (k:=k) hi;rw[show cs=p.c from h3]at F;exact⟨a,h1,F⟩
theorem rf{t:TypeId}{a b:Nat}(F:b≠0):aw TE .rem t (.int .i64 a) (.int .i64 b)=some (.int .i64 ((a%b:Nat):Int)):=by rw[pA (by omega)];rfl
theorem iJ(hX:cV X){l:List Pl}{v:aed}(hl:Sl m l v)(hb:l.length < 4611686018427387904):C X (.func 157) [v] m m.n (.bool (bI l)) m:=by
 refine Cl.flat (hX.no _ rfl) Sy rfl rfl ?_;rw[Zj];dsimp only[aI,δ,ζ,η,ι,κ,υ,φ,χ,ψ];refine cG (λvs m2 lo=>vs=[.bool (!(decide (3<=l.length) && decide (l.length<=8) && !(l.any Pl.off)))]/\m=m2/\m.n=lo) (λR hR=>?_) ?_
 ·rw[hl.len dS];simp only[ae,aE,bY,an,bU,aM,dj,aX,cO,dq,aY,da,bM,ptrTo,bT,dF,aaq,Nat.reduceAdd,aad,aah,aa0,aaT,aa6,abi,aag,bB,ee,dJ,dw,ec,ed,dI]
  refine aq (λh=>hR _ _ _ ⟨by
   have:¬3<=l.length:=by simp at h;omega
   simp[this],rfl,rfl⟩) (λh=>?_)
  have h3:3<=l.length:=by simp at h;omega
  refine aq (λh=>hR _ _ _ ⟨by
   have:¬l.length<=8:=by simp at h;omega
   simp[this],rfl,rfl⟩) (λh=>?_)
  have h8:l.length<=8:=by simp at h;omega
  refine az (lX hX Pl.off hb hl λx _=>BX hX x) ?_;exact hR _ _ _ ⟨by simp[h3,h8],rfl,(acQ _).symm⟩
 rintro _ _ _ ⟨rfl,rfl,rfl⟩;rw[aH,an];refine aq (λh=>?_) (λh=>?_)
 ·refine⟨?_,Ξ _⟩;simp only[aba]at h;simp only[aO,bI,h,aaz]
 simp only[abI]at h;simp only[Ψ,aaC,aba]at h;obtain⟨⟨h3,h8⟩,b0⟩:=h
 have r0:∀p∈l,p.sm 1000000:=λp hp=>Pl.KB (by rw[abF]at b0;simpa using b0 p hp)
 have hv:∀r,mF l=r->bI l=r:=λr hr=>by simp[bI,h3,h8,b0,hr]
 rw[hl.len dS,aE];refine Lp.intro (γ:=Nat) (λi=>l.length-i) (λi vs m1 lo=>vs=[aei,.int .i64 i]/\i<=l.length/\Ext m m1/\m.n<=lo/\∀j,j < i->Dv l j=true) 0 ⟨rfl,aaQ _,.refl,Ξ _,λj hj=>by omega⟩ ?_;rintro i vs m1 U0 ⟨rfl,hi,hx,G0,j0⟩;simp only[aH,aX,ae,an];refine aq (λe0=>?_) (λH0=>?_)
 ·have e0:i < l.length:=by simpa using e0
  obtain⟨pa,g0⟩:∃p,l[i]?=some p:=⟨_,Φ e0⟩
  have I0:(i+1)%l.length < l.length:=ab7 _ (by omega);obtain⟨pb,h0⟩:∃p,l[(i+1)%l.length]?=some p:=⟨_,Φ I0⟩
  obtain⟨q,e1,e2⟩:=(hl.aD hx).nD (k:=.i64) g0;rw[e1,ae,e2,ae];refine au λm2 V0 J0 K0=>?_;simp only[ptrTo];refine aC jV J0 rfl rfl rfl λm3 X0 L0 M0=>?_;have A0:Ext m m3:=⟨by have:=hx.n;omega,λb hb=>by have:=hx.n;rw[M0 b (by omega),K0 b (by omega),hx.get b hb]⟩
  simp only[aQ,ae];rw[wrap64 (by omega) (by omega),(hl.aD A0).len dS,aE];rw[show((i:Int)+1)=((i+1:Nat):Int) by omega,rf (by omega),ae,aE];refine Lp.intro (γ:=Nat) (λk=>l.length-k) (λk vs m4 s0=>vs=[aei,.int .i64 k]/\k<=l.length/\Ext m m4/\m1.n < m4.n/\m4.get m1.n=.cells pa.c 98 none/\m.n<=s0/\∀j c,j < k->l[j]?=some c->j=i\/j=(i+1)%l.length\/0 < dL pa pb c) 0 ⟨rfl,aaQ _,A0,by omega,L0,by have:=hx.n;omega,λj c hj=>by omega⟩ ?_;rintro k vs m4 s0 ⟨rfl,hk,a0,Y0,N0,B0,k0⟩;simp only[aH,aX,ae,an];refine aq (λd0=>?_) (λC0=>?_)
  ·have d0:k < l.length:=by simpa using d0
   obtain⟨pc,i0⟩:∃p,l[k]?=some p:=⟨_,Φ d0⟩
   obtain⟨q,e1,e2⟩:=(hl.aD a0).nD (k:=.i64) i0;rw[e1,ae,e2,ae];refine au λm5 a1 O0 D0=>?_;refine aC jV O0 rfl rfl rfl λm6 c1 P0 E0=>?_;have u0:Ext m m6:=⟨by have:=a0.n;omega,λb hb=>by have:=a0.n;rw[E0 b (by omega),D0 b (by omega),a0.get b hb]⟩
   have l0:m6.get m1.n=.cells pa.c 98 none:=by rw[E0 _ (by omega),D0 _ (by omega),N0]
   refine cG (λvs m7 lo=>vs=[.bool (!(k==i ||k==(i+1)%l.length ||decide (0 < dL pa pb pc)))]/\m7=m6/\m.n<=lo) (λR hR=>?_) ?_
   ·simp only[da,ae,an];have o0:m.n<=min s0 m4.n:=by have:=a0.n;omega
    refine aq (λv0=>?_) (λhe=>?_)
    ·have v0:k≠i:=by simp at v0;omega
     refine aq (λF=>?_) (λQ0=>?_)
     ·have F:k≠(i+1)%l.length:=by intro e;rw[e]at F;simp at F
      rw[iR l0,ae];obtain⟨q,e1,e2⟩:=(hl.aD u0).nD (k:=.i64) h0;rw[e1,ae,e2,ae,iR P0,ae];refine az (zA hX (r0 _ (aac g0)) (r0 _ (aac h0)) (r0 _ (aac i0))) ?_;simp only[dj,ae];refine hR _ _ _ ⟨?_,rfl,by have:=u0.n;omega⟩;have:decide (dL pa pb pc<=0)= !(decide (0 < dL pa pb pc)):=by by_cases h:dL pa pb pc<=0 <;>simp[h] <;>omega
      rw[this];simp[v0,F]
     refine hR _ _ _ ⟨?_,rfl,o0⟩
     have:k=(i+1)%l.length:=by
      have h':(k:Int)=(((i+1)%l.length:Nat):Int):=by simpa using Q0
      omega
     simp[this]
    refine hR _ _ _ ⟨?_,rfl,o0⟩;have:k=i:=by simp at he;omega
    simp[this]
   rintro _ m7 d1 ⟨rfl,rfl,q0⟩;rw[aH,an];refine aq (λF0=>?_) (λz0=>?_)
   ·have hc:mF l=false:=by
     cases hc:mF l with
     |false=>rfl
     |true=>simp only[mF,aay,ab3]at hc;have h2:=(mQ g0 h0).1 (hc i e0) k pc i0;simp only[aba,abQ,beq_eq_false_iff_ne,aby]at F0;omega
    exact⟨by rw[hv false hc];rfl,q0⟩
   simp only[aQ,ae];rw[wrap64 (by omega) (by omega)];refine⟨k+1,by omega,by simp,by omega,u0,by omega,l0,q0,λj c hj hc=>?_⟩;by_cases S0:j < k;·exact k0 j c S0 hc
   have:j=k:=by omega
   subst this;rw[i0]at hc;cases hc;simp only[abI,abW,beq_iff_eq,aaC]at z0;omega
  have g1:k=l.length:=by
   have:¬(k:Int)< (l.length:Int):=by simpa using C0
   omega
  refine⟨i+1,by omega,by simp,by omega,a0,B0,λj hj=>?_⟩;by_cases T0:j < i;·exact j0 j T0
  have:j=i:=by omega
  subst this;rw[mQ g0 h0];intro q c hq;exact k0 q c (by have:=(Ω.1 hq).1;omega) hq
 have h1:i=l.length:=by
  have:¬(i:Int)< (l.length:Int):=by simpa using H0
  omega
 have hc:mF l=true:=aay.2 λj hj=>j0 j (by rw[ab3]at hj;omega);exact⟨by rw[hv true hc];rfl,G0⟩
end
section
variable {X:aG} {m:M}
def lg(l:List Pl):List (aee):=l.mapIdx λi a=> [a.v,match l[(i+1)%l.length]? with |some b=>b.v |none=>undef]
theorem MI{l:List Pl}{i:Nat}{a b:Pl}(F:l[i]?=some a)(hb:l[(i+1)%l.length]?=some b):(lg l)[i]?=some [a.v,b.v]:=by unfold lg;rw[acA,F,aag,hb]
theorem zh{l:List Pl}{i:Nat}{args:aee}(h:(lg l)[i]?=some args):∃a b,l[i]?=some a/\l[(i+1)%l.length]?=some b/\args=[a.v,b.v]:=by
 unfold lg at h;rw[acA,aaj]at h;obtain⟨a,F,h⟩:=h;have a0:=(Ω.1 F).1;obtain⟨b,hb⟩:∃b,l[(i+1)%l.length]?=some b:=⟨_,Φ (ab7 _ (by omega))⟩
 rw[hb]at h;exact⟨a,b,F,hb,h.symm⟩
theorem sY{l:List Pl}:(lg l).length=l.length:=by unfold lg;rw[adn]
theorem zi(hX:cV X){l:List Pl}{v:aed}{b:Nat}(hlen:l.length < 4611686018427387904):
  TQ TE X (λ_=>False) (.func 213) [] [ptrTo b] (lg l) (λm=>m.get b=.cells [v] 45 none/\Sl m l v):=by
 intro y n0 B I J m hD hI hJ hy o0 hB b0 h0;refine Cl.gen (R:=λv m2 b=>B<=b/\(I (lg l).length m2\/J m2)) (hX.no _ rfl) Sc rfl ?_;rw[show([]:aee)++ .func (.yield y) #[] #[]::[ptrTo b]=[.func (.yield y) #[] #[],ptrTo b]from rfl,YT];dsimp only[aI,δ,ζ,η,ι,κ,ο,υ,φ,χ];have ld:∀m1:M,m1.get b=.cells [v] 45 none->ah TE m1 45 (aeb b 0)=some v:=λm1 h=>by rw[kg,aF h];rfl
 simp only[ptrTo];rw[ld m (hD _ _ h0).1,ae,(hD _ _ h0).2.len dS,aE];refine Lp.intro (γ:=Nat) (λi=>l.length-i) (λi vs m1 lo=>vs=[.int .i64 i]/\i<=l.length/\I i m1/\n0<=m1.n/\B<=lo/\((i=0/\m1=m/\lo=m.n)\/lo < m.n)) 0 ⟨rfl,aaQ _,h0,o0,by omega,.inl ⟨rfl,rfl,rfl⟩⟩ ?_;rintro i vs m1 F0 ⟨rfl,hi,d0,G0,H0,F⟩;simp only[aH,aX,ae,an];refine aq (λe0=>?_) (λq0=>?_)
 ·have e0:i < l.length:=by simpa using e0
  obtain⟨pa,g0⟩:∃p,l[i]?=some p:=⟨_,Φ e0⟩
  have r0:(i+1)%l.length < l.length:=ab7 _ (by omega);obtain⟨pb,i0⟩:∃p,l[(i+1)%l.length]?=some p:=⟨_,Φ r0⟩
  obtain⟨q,e1,e2⟩:=(hD _ _ d0).2.nD (k:=.i64) g0;rw[e1,ae,e2,ae];refine au λm2 I0 s0 u0=>?_;refine aC jV s0 rfl rfl rfl λm3 J0 v0 z0=>?_;have A0:Ext m1 m3:=⟨by omega,λb hb=>by rw[z0 b (by omega),u0 b hb]⟩
  have j0:=hI _ _ _ d0 A0;obtain⟨B0,k0⟩:=hD _ _ j0;rw[iR v0,ae,ld m3 B0,ae];simp only[aQ,ae];rw[wrap64 (by omega) (by omega),k0.len dS,aE];rw[show((i:Int)+1)=((i+1:Nat):Int) by omega,rf (by omega),ae];obtain⟨q,e1,e2⟩:=k0.nD (k:=.i64) i0;rw[e1,ae,e2,ae,bY];obtain⟨v2,m4,b4,hc,K0,L0,M0,l0⟩:=b0 i [pa.v,pb.v] m3 (by omega) (MI g0 i0) j0;refine az hc ?_;have N0:m3.n<=m4.n:=hc.1;rcases l0 with⟨rfl,C0⟩ |⟨rfl,D0⟩
  ·simp only[bM,ae,an,aal,aM];exact⟨i+1,by omega,rfl,by omega,C0,by omega,by omega,.inr (by omega)⟩
  simp only[bM,ae,an,aau,bU];exact .inr ⟨.inr (by omega),by omega,.inr D0⟩
 have E0:i=l.length:=by
  have:¬(i:Int)< (l.length:Int):=by simpa using q0
  omega
 have a0:I (lg l).length m1:=by rw[sY,<-E0];exact d0
 rcases F with⟨h1,h2,h3⟩ |F
 ·rw[h2]at a0;exact .inl ⟨rfl,by omega,by omega,.inl a0⟩
 exact .inr ⟨.inr F,by omega,.inl a0⟩
theorem Cu(hX:cV X){v:aed}(hv:cells v=[v]):∃F,C X (.func 158) [v] m m.n (.func (.func 213) #[] #[ptrTo m.n]) F/\Ext m F/\F.n=m.n+1/\F.get m.n=.cells [v] 45 none:=by
 obtain⟨v',F,b,hc,rfl,rfl,h⟩:=Cl.heap (R:=λw F b=>w=.func (.func 213) #[] #[ptrTo m.n]/\b=m.n/\Ext m F/\F.n=m.n+1/\F.get m.n=.cells [v] 45 none) (hX.no _ rfl) Sx rfl (m:=m) (args:=[v]) (by rw[Zi];dsimp only[aI,ς,φ];refine au λm1 hn hg hk=>?_;rw[hv]at hg;exact⟨.inl rfl,rfl,by omega,⟨by omega,λb hb=>hk b hb⟩,hn,hg⟩)
 exact⟨F,hc,h⟩
end
section
variable {X:aG} {m:M}
def kj(a b:Int):Int:=if a < b then -1 else if b < a then 1 else 0
theorem BY(F:cV X)(a:Int):C X (.func 289) [.int .i64 a] m m.n aei m:=by refine Cl.flat (F.no _ rfl) RM rfl rfl ?_;rw[Yl];dsimp only[aI,η];simp only[da,ae];exact⟨by simp[aO],Ξ _⟩
theorem qD(F:cV X)(a b:Int):C X (.func 186) [.int .i64 a,.int .i64 b] m m.n (.int .i64 (kj a b)) m:=by
 refine Cl.flat (F.no _ rfl) Sm rfl rfl ?_;rw[Y7];dsimp only[aI,η,χ,ψ];refine az (BY F a) (az (BY F b) ?_);simp only[an,aM,aX,dq,ae];refine aq (λh=>?_) (λh=>?_)
 ·have:a < b:=by simpa using h
  exact⟨by simp[aO,kj,this],by omega⟩
 have h1:¬a < b:=by simpa using h
 refine aq (λh=>?_) (λh=>?_)
 ·have h2:b < a:=by simpa using h
  exact⟨by simp[aO,kj,h1,h2],by omega⟩
 have h2:¬b < a:=by simpa using h
 exact⟨by simp[aO,kj,h1,h2],by omega⟩
def kR(l:List Pl)(p:Pl):Nat->Int
 |0=>4611686018427387903
 |i+1=>match l[i]?,l[(i+1)%l.length]? with
  |some a,some b=>min (kR l p i) (dL a b p)
  |_,_=>kR l p i
def Fa(l:List Pl)(p:Pl):Int:=kj (kR l p l.length) 0
theorem NW(hX:cV X){l:List Pl}{v:aed}{p:Pl}(hl:Sl m l v)(hb:l.length < 4611686018427387904)(i0:∀a∈l,a.sm 1000000)(hp:p.sm 1000000):
  C X (.func 179) [v,p.v] m m.n (.int .i64 (Fa l p)) m:=by
 refine Cl.flat (hX.no _ rfl) So rfl rfl ?_;rw[Y9];dsimp only[aI,δ,ι,κ,ς,υ,φ,χ,ψ];refine au λm1 S0 j0 D0=>?_;refine au λm2 T0 E0 k0=>?_;simp only[bB]at j0;simp only[ptrTo];refine aC mO E0 rfl rfl rfl λm3 U0 F0 l0=>?_;have g1:m3.get m.n=.cells p.c 98 none:=by rw[l0 _ (by omega),k0 _ (by omega),j0];rfl
 have o0:Ext m m3:=⟨by omega,λb hb=>by rw[l0 b (by omega),k0 b (by omega),D0 b hb]⟩
 obtain⟨m6,hc,a0,V0,G0⟩:=Cu (m:=m3) hX hl.cells;refine az hc ?_;rw[bY];have g16:m6.get m.n=.cells p.c 98 none:=by rw[a0.get _ (by omega),g1]
 have H0:m6.get m1.n=.cells [.int .i64 4611686018427387903] 3 none:=by rw[a0.get _ (by omega),F0];rfl
 have X0:Sl m6 l v:=(hl.aD o0).aD a0;refine⟨_,lg l,_,λi mm=>m6.n<=mm.n/\(∀c,c < m6.n->c≠m1.n->mm.get c=m6.get c)/\mm.get m1.n=.cells [.int .i64 (kR l p i)] 3 none,λ_ _=>False,m.n,⟨_,rfl⟩,zi hX hb (v:=v) (b:=m3.n),by omega,?_,?_,?_,⟨Ξ _,λ_ _ _=>rfl,H0⟩,?_,?_,?_⟩
 ·rintro i mm ⟨h1,h2,h3⟩;refine⟨by rw[h2 _ (by omega) (by omega),G0],?_⟩;refine hl.bH λb c t g hb ht=>?_;have:=M.aL hb;rw[h2 b (by omega) (by omega),a0.get b (by omega),o0.get b this,hb]
 ·rintro i mm I0 ⟨h1,h2,h3⟩ hk;exact⟨by have:=hk.n;omega,λc hc h0=>by rw[hk.get c (by omega) (by omega),h2 c hc h0],by rw[hk.get _ (by omega) (by omega),h3]⟩
 ·rintro e mm I0 h;exact h.elim
 ·rintro i args m9 Y0 hx ⟨h1,h2,h3⟩;obtain⟨pa,pb,q0,r0,rfl⟩:=zh hx;rw[aH,aH];show II [] _;unfold II;refine au λa1 L0 s0 u0=>?_;refine aC jV s0 rfl rfl rfl λJ0 M0 v0 z0=>?_;refine au λc1 N0 A0 d0=>?_;refine aC jV A0 rfl rfl rfl λK0 O0 B0 e0=>?_;have iG:∀c,c < m9.n->K0.get c=m9.get c:=λc hc=>by rw[e0 c (by omega),d0 c (by omega),z0 c (by omega),u0 c hc]
  refine⟨λc _ hc=>iG c hc,λb0 P0 F=>?_⟩;have r1:b0.get m1.n=.cells [.int .i64 (kR l p i)] 3 none:=by rw[F _ (by omega),iG _ (by omega),h3]
  have r2:b0.get m9.n=.cells pa.c 98 none:=by rw[F _ (by omega),e0 _ (by omega),d0 _ (by omega),v0];rfl
  have r3:b0.get J0.n=.cells pb.c 98 none:=by rw[F _ (by omega),B0];rfl
  have r4:b0.get m.n=.cells p.c 98 none:=by rw[F _ (by omega),iG _ (by omega),h2 _ (by omega) (by omega),g16]
  dsimp only;rw[cd,aF r1];simp only[aad,ae];rw[iR r2,ae,iR r3,ae,iR r4,ae];refine az (zA hX (i0 _ (aac q0)) (i0 _ (aac r0)) hp) ⟨Ξ _,?_⟩;rw[iQ,aE];refine aC mO r1 rfl rfl rfl λd1 Q0 C0 g0=>?_;refine⟨by omega,λc e1 i1 _=>g0 c (by omega),?_⟩;refine⟨by omega,λc hc h0=>?_,?_⟩;·rw[g0 c (by omega),F c (by omega),iG c (by omega),h2 c hc h0]
  rw[C0,kR,q0,r0];rfl
 ·rintro mm nz ⟨h1,h2,h3⟩ j1;rw[cd,aF h3];simp only[aad,ae];refine az (qD hX _ _) ⟨by rw[sY];rfl,by omega⟩
 rintro e mm nz _ h;exact h.elim
end
section
variable {X:aG} {m:M}
theorem oG:aK TE m 45 0 []=some (.slice (some ⟨m.n,0,none⟩) 0 0,m.push (.cells [] 98 none)):=by kernel_rfl
theorem ij(hX:cV X){l:List Pl}{v:aed}(hl:Sl m l v)(a0:l≠ [])(hs:l.length<=1000000):
  ∃v' F,C X (.func 155) [v] m m.n v' F/\Ow m.n F l v'/\Ext m F:=by
 have key:=Cl.heap (E:=TE) (X:=X) (f:=155) (args:=[v]) (m:=m) (R:=λv' F b=>b=m.n/\Ow m.n F l v'/\Ext m F) (hX.no _ rfl) Sz rfl ?_
 ·obtain⟨v',F,b,hc,rfl,h3⟩:=key;exact⟨v',F,hc,h3⟩
 rw[Zk];dsimp only[aI,η,κ,ν]
 have b0:aw TE .eql 45 v aeg=some aei:=by
  rcases hl with⟨_,rfl⟩ |⟨b,o,c,bc,g,rfl,_⟩;·exact absurd rfl a0
  simp only[aw,eq?,kG,ag.t45,aag]
 rw[b0];simp only[ae,an,aM];rw[oG,aE];have d0:Ext m (m.push (.cells [] 98 none)):=Ext.refl.push;obtain⟨v',m1,e1,e0,he,g0⟩:=lO (m:=m.push (.cells [] 98 none)) xA (b:=m.n) M.bJ (hl.aD d0) a0 hs;rw[e1,aE];have h0:=e0.flat a0;rw[M.qd]at g0;exact⟨.inl h0,by omega,e0.mono (by rw[M.qd];omega),d0.trans he⟩
def nR(l:List Pl):aee:=l.flatMap Pl.c
theorem jy{p:Pl}{l:List Pl}:nR (p::l)=.int .i64 p.x::.int .i64 p.y::nR l:=rfl
theorem gD:∀l:List Pl,(nR l).length=l.length*2
 |[]=>rfl
 |p::l=>by rw[jy,aaJ,aaJ,gD l,aaJ];omega
theorem Fk:∀{l:List Pl} {i:Nat} {p:Pl},l[i]?=some p->(nR l)[i*2]?=some (.int .i64 p.x)
 |q::l,0,p,h=>by cases h;rfl
 |q::l,i+1,p,h=>by
  rw[jy,show(i+1)*2=i*2+1+1 by omega,aah,aah]
  exact Fk (by simpa using h)
theorem Fj:∀{l:List Pl} {i:Nat} {p:Pl},l[i]?=some p->(nR l)[i*2+1]?=some (.int .i64 p.y)
 |q::l,0,p,h=>by cases h;rfl
 |q::l,i+1,p,h=>by
  rw[jy,show(i+1)*2+1=i*2+1+1+1 by omega,aah,aah]
  exact Fj (by simpa using h)
theorem rk:∀{l:List Pl} {i:Nat} {p:Pl} (x:Int),l[i]?=some p->(nR l).set (i*2) (.int .i64 x)=nR (l.set i ⟨x,p.y⟩)
 |q::l,0,p,x,h=>by cases h;rfl
 |q::l,i+1,p,x,h=>by
  rw[jy,show(i+1)*2=i*2+1+1 by omega,ach,ach,rk x (by simpa using h),ach,jy]
theorem vz:∀{l:List Pl} {i:Nat} {p:Pl} (y:Int),l[i]?=some p->(nR l).set (i*2+1) (.int .i64 y)=nR (l.set i ⟨p.x,y⟩)
 |q::l,0,p,x,h=>by cases h;rfl
 |q::l,i+1,p,x,h=>by
  rw[jy,show(i+1)*2+1=i*2+1+1+1 by omega,ach,ach,vz x (by simpa using h),ach,jy]
theorem DE:∀{l:List Pl} {cs:aee},cs.length=l.length*2->(∀i x,l[i]?=some x->chunk cs 2 i=x.c)->cs=nR l
 |[],cs,h,_=>by
  have:cs=[]:=acF.1 (by simpa using h)
  rw[this];rfl
 |p::l,a::b::cs,h,hc=>by
  have h0:=hc 0 p rfl
  simp only[chunk,ab0,aa0,aa6,abi,Pl.c]at h0
  injection h0 with e1 F
  injection F with F _
  rw[jy,e1,F,<-DE (l:=l) (cs:=cs) (by simp at h;omega) (λi x hi=>by
   have:=hc (i+1) x (by simpa using hi)
   simp only[chunk]at this⊢
   rw[show(i+1)*2=i*2+1+1 by omega,aaT,aaT]at this
   exact this)]
 |p::l,[],h,_=>by simp at h
 |p::l,[a],h,_=>by simp at h;omega
theorem yN{l:List Pl}{i:Nat}{p:Pl}(h:l[i]?=some p):chunk (nR l) 2 i=p.c:=by
 have F:=Fk h
 have hy:=Fj h
 have hl:=gD l
 have hi:=(Ω.1 h).1
 unfold chunk
 refine abt λk=>?_
 match k with
 |0=>rw[aaI (by omega),aaW,abC];exact F
 |1=>rw[aaI (by omega),aaW];exact hy
 |k+2=>rw[abb (by rw[aap];omega)];rfl
theorem zF{l:List Pl}{b:Nat}{c:Nat}{g:Option Nat}(h:m.get b=.cells (nR l) 98 g):Sl m l (aec b 0 l.length c):=
 .inr ⟨b,0,c,nR l,g,rfl,h,by rw[gD];show 0+l.length*2<=_;omega,λi x hi=>by
  rw[aaq]
  exact yN hi⟩
theorem DX{b n c i:Nat}{k:IntKind}(hi:i < n):ak TE 45 (aec b 0 n c) (.int k i)=some (aeb b (i*2)):=by
 have F:0<=(i:Int)/\(i:Int)< (n:Int)/\0 < ag.t45.es:=⟨by omega,by omega,by decide⟩
 have hd:ag.t45.d=.slice 98:=rfl;simp only[ak,kG,hd];rw[aaf F,bw rfl,aaq];rfl
theorem ir{cs:aee}{i:Nat}{x:aed}(h:i < cs.length):cs.take i++([x]++cs.drop (i+1))=cs.set i x:=by rw[List.set_eq_take_append_cons_drop,aaf h];rfl
def Pl.FQ(p:Pl):Pl:=⟨2*p.x,2*p.y⟩
def mixed(l:List Pl)(i:Nat):List Pl:=(l.take i).map Pl.FQ++l.drop i
theorem KM{l:List Pl}{i:Nat}{p:Pl}(h:l[i]?=some p):(mixed l i)[i]?=some p:=by have hi:=(Ω.1 h).1;unfold mixed;rw[aa1 (by simp;omega)];simp only[aaB,aap,aaW];rw[show i+(i-min i l.length)=i by omega,h]
theorem Hu{l:List Pl}{i:Nat}(h:i<=l.length):(mixed l i).length=l.length:=by unfold mixed;simp;omega
theorem DP{l:List Pl}{i:Nat}{p:Pl}(h:l[i]?=some p):(mixed l i).set i p.FQ=mixed l (i+1):=by
 have hi:=(Ω.1 h).1
 unfold mixed
 rw[ac4 (h:=by simp;omega)]
 simp only[aaB,aap]
 rw[show i-min i l.length=0 by omega,abo,h,acx,abh,aa7]
 congr 1
 rw[ab6 hi,adm]
 rfl
def ka(l:List Pl)(x y:Int):Int:=if bI l && decide (0<=min x y) && decide (max x y < 40)then Fa (l.map Pl.FQ) ⟨2*x+1,2*y+1⟩else -1
theorem Ap(hX:cV X){l:List Pl}{v:aed}(hl:Sl m l v)(hb:l.length < 4611686018427387904)(x y:Int):C X (.func 119) [v,.int .i64 x,.int .i64 y] m m.n (.int .i64 (ka l x y)) m:=by
 refine Cl.flat (hX.no _ rfl) SO rfl rfl ?_;rw[Zy];dsimp only[aI,δ,ε,ζ,η,θ,ι,κ,ο,χ,ψ];refine cG (λvs m2 lo=>vs=[.bool (!(bI l && decide (0<=min x y) && decide (max x y < 40)))]/\m=m2/\m.n=lo) (λR hR=>?_) ?_
 ·refine az (iJ hX hl hb) ?_;simp only[bM,ae,an,iQ,aE,aX];refine aq (λh=>hR _ _ _ ⟨by simp only[aba]at h;simp[h],rfl,by omega⟩) (λh=>?_);simp only[abI]at h
  refine aq (λh2=>hR _ _ _ ⟨by
   simp only[aaC]at h2;have:¬0<=min x y:=by omega
   simp[this],rfl,by omega⟩) (λh2=>?_)
  rw[lJ,aE,cO,ae];simp only[aby]at h2;refine hR _ _ _ ⟨?_,rfl,by omega⟩;have e1:decide (0<=min x y)=true:=by simp;omega
  have e2:decide (40<=max x y)= !decide (max x y < 40):=by by_cases h:max x y < 40 <;>simp[h] <;>omega
  rw[h,e1,e2];rfl
 rintro _ _ _ ⟨rfl,rfl,rfl⟩;rw[aH,an];refine aq (λh=>?_) (λh=>?_)
 ·simp only[aba]at h;exact⟨by simp only[aO,ka,h];rfl,Ξ _⟩
 simp only[abI]at h;have g0:ka l x y=Fa (l.map Pl.FQ) ⟨2*x+1,2*y+1⟩:=by unfold ka;rw[aaf h]
 simp only[Ψ,aaC]at h;obtain⟨⟨hv,h0⟩,C0⟩:=h;have hlen:=cx hv;have j0:l≠ []:=by rintro rfl;simp at hlen
 obtain⟨v',m2,hc,o0,hx⟩:=ij hX hl j0 (by omega);refine az hc ?_;rcases o0 with⟨_,rfl⟩ |⟨b,cs,rfl,B0,D0,hg,q0,r0⟩;·exact absurd rfl j0
 obtain rfl:cs=nR l:=DE q0 r0;have s0:mixed l 0=l:=by unfold mixed;simp
 have i0:∀mm:M,av TE mm .len [45] [aec b 0 l.length l.length]=some (.int .i64 l.length,mm):=λmm=>KY;rw[i0,aE];refine Lp.intro (γ:=Nat) (λi=>l.length-i) (λi vs m1 lo=>vs=[.int .i64 i]/\i<=l.length/\m2.n<=m1.n/\m1.get b=.cells (nR (mixed l i)) 98 (some 2)/\m.n<=lo) 0 ⟨rfl,aaQ _,Ξ _,by rw[s0];exact hg,by omega⟩ ?_;rintro i vs m1 E0 ⟨rfl,hi,hn,b0,F0⟩;simp only[aH,aX,ae,an];refine aq (λa0=>?_) (λu0=>?_)
 ·have a0:i < l.length:=by simpa using a0
  obtain⟨p,hp⟩:∃p,l[i]?=some p:=⟨_,Φ a0⟩
  have G0:=Pl.on (kF hv p (aac hp));have k0:=KM hp;have F:=Hu (l:=l) (i:=i) (by omega);simp only[DX a0,ae,cf,ck,abC];rw[cd,aF b0,Fk k0,ae,ej,ae,wrap64 (by omega) (by omega)];refine bW mO b0 rfl (by rw[gD,F];show i*2+1<=_;omega) rfl λm3 H0 v0 I0=>?_
  have d0:m3.get b=.cells (nR ((mixed l i).set i ⟨p.x*2,p.y⟩)) 98 (some 2):=by rw[v0,<-rk _ k0,<-ir (by rw[gD,F];omega)];rfl
  have e0:((mixed l i).set i ⟨p.x*2,p.y⟩)[i]?=some ⟨p.x*2,p.y⟩:=by rw[acs (by rw[F];exact a0)]
  rw[cd,aF d0,Fj e0,ae];simp only[ej,ae];rw[wrap64 (by omega) (by omega)];refine bW mO d0 rfl (by rw[gD,abM,F];show i*2+1+1<=_;omega) rfl λm4 J0 z0 K0=>?_
  have l0:m4.get b=.cells (nR (mixed l (i+1))) 98 (some 2):=by
   rw[z0,<-DP hp,show p.FQ=⟨p.x*2,p.y*2⟩ by unfold Pl.FQ;congr 1 <;>omega,
    show(mixed l i).set i ⟨p.x*2,p.y*2⟩=((mixed l i).set i ⟨p.x*2,p.y⟩).set i ⟨p.x*2,p.y*2⟩ by rw[List.set_set],<-vz _ e0,<-ir (by rw[gD,abM,F];omega)];rfl
  rw[aQ,ae,wrap64 (by omega) (by omega)];exact⟨i+1,by omega,by simp,by omega,by omega,l0,by omega⟩
 have A0:i=l.length:=by
  have:¬(i:Int)< (l.length:Int):=by simpa using u0
  omega
 simp only[ej,aQ,ae];rw[wrap64 (x:=2*x) (by omega) (by omega),wrap64 (x:=2*x+1) (by omega) (by omega),wrap64 (x:=2*y) (by omega) (by omega),wrap64 (x:=2*y+1) (by omega) (by omega)];rw[eT rfl rfl,ae];have hm:mixed l i=l.map Pl.FQ:=by unfold mixed;rw[A0,abB,acS,abk]
 rw[hm]at b0;have hs:=zF (c:=l.length) b0;rw[aaB]at hs;refine az (NW hX (p:=⟨2*x+1,2*y+1⟩) hs (by rw[aaB];exact hb) ?_ ⟨by show -1000000<=2*x+1;omega,by show 2*x+1<=1000000;omega,by show -1000000<=2*y+1;omega,by show 2*y+1<=1000000;omega⟩) ?_
 ·intro a ha;obtain⟨p,hp,rfl⟩:=aaU.1 ha;have:=Pl.on (kF hv p hp);exact⟨by show -1000000<=2*p.x;omega,by show 2*p.x<=1000000;omega,by show -1000000<=2*p.y;omega,by show 2*p.y<=1000000;omega⟩
 exact⟨by rw[aO,g0],by have:=hx.n;omega⟩
end
section
section
variable {W:Words}{x0 x1 x2 x3 x4 x5 x6 x7:aed}{m:M}{R RP:aee->M->Nat->Prop}{CP:Fn->aee->M->(M->Nat->Prop)->Prop}
theorem Zr:dm TE W Tryz.f132 [x0,x1] m R=υ W m [χ 0,χ 0,χ 0,aeg,χ 0,χ 0] 87 λa=>κ W a .len [29] [x0] λb _=>W.Lp (λa c d f=>W.un c λc g=>W.un g λg _=>η W .lss 3 g b λb=>bD b (ζ W 29 x0 g λb=>δ W d 87 b λb=>υ W d [χ 0,χ 0,χ 0,aeg,χ 0,χ 0] 87 λh=>ι W h 87 (φ d) b λb h=>W.jn (λa=>ο W .not c λc=>bD c (a [aeh] b (min f h)) (δ W b 87 (φ d) λc=>δ W b 87 (φ m) λd=>jN x1 λg i j=>W.bt g (i.toList++([c,d]++j.toList)) b λb c d=>a [b] c (min (min f h) d))) (λb f h=>W.un b λb _=>bD b (δ W f 87 (φ d) λb=>ι W f 87 (φ m) b λb c=>η W .add 3 g (χ 1) λd=>a [aeh,d] b (min h c)) (η W .add 3 g (χ 1) λb=>a [c,b] f h))) (δ W d 87 (φ m) λa=>ι W d 87 (φ m) a λa b=>aj (ah TE a 87 (φ m)) λd=>R [d,c] a (min f b))) [aei,χ 0] a m.n:=by kernel_rfl
theorem Zq:dm TE W Tryz.f133 [x0,x1] m R=ς W m x0 87 λa=>ς W a x1 87 λb=>ε W 87 (φ m) 4 λc=>δ W b 3 c λc=>ε W 87 (φ a) 4 λa=>δ W b 3 a λa=>η W .lss 3 c a λa=>R [a] b m.n:=by kernel_rfl
theorem Zp:dm TE W Tryz.f134 [x0,x1] m R=ς W m x0 87 λa=>ς W a x1 87 λb=>ε W 87 (φ m) 5 λc=>δ W b 3 c λc=>ε W 87 (φ a) 5 λa=>δ W b 3 a λa=>η W .gtr 3 c a λa=>R [a] b m.n:=by kernel_rfl
theorem Zs:dm TE W Tryz.f131 [x0,x1] m R=ς W m x0 87 λa=>ο W .not x1 λb=>bD b (R [χ (-1)] a m.n) (ε W 87 (φ m) 0 λb=>δ W a 3 b λb=>R [b] a m.n):=by kernel_rfl
theorem F68:dm TE W Tryz.f68 [x0,x1,x2] m R=υ W m [χ 0,χ 0,aeg] 27 λa=>θ W 27 [(0,x0),(1,x1)] λb=>υ W a [χ 0,χ 0,aeg] 27 λc=>ι W c 27 (φ a) b λb c=>W.Lp (λb c d f=>W.un c λc _=>η W .lss 3 c x1 λg=>bD g (W.Lp (λd f g h=>W.un f λf _=>η W .lss 3 f x0 λi=>bD i (ε W 27 (φ a) 2 λb=>δ W g 25 b λb=>jN x2 λi j k=>W.bt i (j.toList++([f,c]++k.toList)) g λc i j=>(g.n<=j)/\(ν W i 25 1 [(0,c)] λc g=>κ W (M.wl g g.n) .append [25,25] [b,c] λb c=>ε W 27 (φ a) 2 λa=>ι W c 25 a b λa b=>η W .add 3 f (χ 1) λf=>d [f] a (min (min (min h j) (M.low c)) b))) (η W .add 3 c (χ 1) λa=>b [a] g h)) [χ 0] d f) (δ W d 27 (φ a) λa=>ι W d 27 (φ m) a λa b=>aj (ah TE a 27 (φ m)) λc=>R [c] a (min f b))) [χ 0] b (min m.n c):=by kernel_rfl
theorem F67:dm TE W Tryz.f67 [x0] m R=ς W m x0 31 λa=>W.bZ (M.push a (.map [] 0)) λb=>ε W 31 (φ m) 0 λc=>δ W b 29 c λc=>κ W b .len [29] [c] λd _=>W.Lp (λb f g h=>W.un f λf _=>η W .lss 3 f d λd=>bD d (ζ W 29 c f λc=>δ W g 87 c λc=>υ W g [χ 0,χ 0,χ 0,aeg,χ 0,χ 0] 87 λd=>ι W d 87 (φ g) c λc d=>ε W 87 (φ g) 3 λi=>δ W c 45 i λi=>ζ W 45 i (χ 0) λi=>δ W c 98 i λi=>ε W 87 (φ g) 3 λj=>δ W c 45 j λk=>ζ W 45 k (χ 0) λk=>δ W c 98 k λl=>υ W c [χ 0,χ 0] 98 λn=>υ W n [χ 0,χ 0] 98 λo=>ι W o 98 (φ c) i λi p=>((o.n<=p)\/(gM (some (.v j)) p/\(gM (some (.v k)) p/\True)))/\(ι W i 98 (φ n) l λi j=>ε W 87 (φ g) 3 λk=>δ W i 45 k λk=>κ W i .len [45] [k] λl _=>W.Lp (λd h i j=>W.un h λh _=>η W .lss 3 h l λl=>bD l (ζ W 45 k h λa=>δ W i 98 a λa=>υ W i [χ 0,χ 0] 98 λb=>ι W b 98 (φ i) a λa b=>ε W 98 (φ c) 0 λf=>δ W a 3 f λf=>ε W 98 (φ i) 0 λg=>δ W a 3 g λg=>κ W a .min [3,3] [f,g] λf _=>ε W 98 (φ c) 1 λg=>δ W a 3 g λg=>ε W 98 (φ i) 1 λk=>δ W a 3 k λk=>κ W a .min [3,3] [g,k] λg _=>θ W 98 [(0,f),(1,g)] λf=>ε W 98 (φ n) 0 λg=>δ W a 3 g λk=>ε W 98 (φ i) 0 λl=>δ W a 3 l λo=>κ W a .max [3,3] [k,o] λk _=>ε W 98 (φ n) 1 λo=>δ W a 3 o λp=>ε W 98 (φ i) 1 λi=>δ W a 3 i λq=>κ W a .max [3,3] [p,q] λp _=>θ W 98 [(0,k),(1,p)] λk=>ι W a 98 (φ c) f λc f=>((a.n<=f)\/(gM (some (.v g)) f/\(gM (some (.v l)) f/\(gM (some (.v o)) f/\(gM (some (.v i)) f/\True)))))/\(ι W c 98 (φ n) k λa c=>η W .add 3 h (χ 1) λg=>d [g] a (min (min (min j b) f) c))) (ε W 98 (φ c) 1 λd=>δ W i 3 d λd=>W.Lp (λd h i j=>W.un h λh _=>ε W 98 (φ n) 1 λk=>δ W i 3 k λk=>η W .geq 3 h k λk=>bD k (η W .add 3 f (χ 1) λa=>b [a] i j) (ε W 98 (φ c) 0 λb=>δ W i 3 b λb=>W.Lp (λb c f i=>W.un c λc _=>ε W 98 (φ n) 0 λj=>δ W f 3 j λj=>η W .lss 3 c j λj=>bD j (θ W 98 [(0,c),(1,h)] λd=>υ W f [χ 0,χ 0] 98 λj=>ι W j 98 (φ f) d λd j=>ε W 87 (φ g) 3 λk=>δ W d 45 k λk=>ψ W 119 [k,c,h] d λd h k=>η W .geq 3 d (χ 0) λd=>bD d (δ W h 98 (φ f) λd=>δ W h 87 (φ g) λf=>ν W h 29 1 [(0,f)] λf g=>W.aT (ez TE (M.wl g g.n) 133 (.map (some a.n)) d) λd g=>ξ W d 0 λh=>κ W (M.wl g g.n) .append [29,29] [h,f] λf h=>ξ W d 1 λd=>W.aj (dv (M.wl h h.n) (.map (some a.n)) d f) λa=>η W .add 3 c (χ 1) λc=>b [c] a (min (min (min (min (min i j) k) (M.low g)) (M.low h)) (M.low a))) (η W .add 3 c (χ 1) λa=>b [a] h (min (min i j) k))) (η W .add 3 h (χ 1) λa=>d [a] f i)) [b] i j)) [d] i j)) [χ 0] i (min (min (min h d) p) j))) (R [.map (some a.n)] g h)) [χ 0] b m.n:=by kernel_rfl
theorem F60:dm TE W Tryz.f60 [x0,x1] m R=ς W m x0 31 λa=>ς W a x1 4 λb=>υ W b [χ 0,χ 0,aeg] 27 λc=>δ W c 31 (φ m) λd=>ψ W 67 [d] c λc d f=>υ W d [.map none] 133 λg=>ι W g 133 (φ d) c λc g=>ψ W 68 [χ 40,χ 40,.func (.func 130) #[] #[φ a,φ d]] c λa c d=>ι W c 27 (φ b) a λa c=>aj (ah TE a 27 (φ b)) λb=>R [b] a (min (min (min (min m.n f) g) d) c):=by kernel_rfl
theorem Zt:dm TE W Tryz.f130 [x0,x1,x2,x3] m R=δ W m 4 x2 λa=>bD a (δ W m 133 x3 λa=>η W .sub 3 (χ 39) x0 λb=>θ W 98 [(0,b),(1,x1)] λb=>W.aj (dn TE m 133 a b false) λa=>ψ W 132 [a,.func (.func 133) #[] #[]] m λa b c=>ξ W a 0 λd=>ξ W a 1 λa=>ψ W 131 [d,a] b λa b d=>R [a] b (min (min m.n c) d)) (δ W m 133 x3 λa=>θ W 98 [(0,x0),(1,x1)] λb=>W.aj (dn TE m 133 a b false) λa=>ψ W 132 [a,.func (.func 134) #[] #[]] m λa b c=>ξ W a 0 λd=>ξ W a 1 λa=>ψ W 131 [d,a] b λa b d=>R [a] b (min (min m.n c) d)):=by kernel_rfl
end
end
section
variable {X:aG} {m:M}
structure Un where
 id:Int
 kind:Int
 CV:Int
 shape:List Pl
 back:Int
 front:Int
abbrev Un.c(u:Un)(w:aed):aee:=[.int .i64 u.id,.int .i64 u.kind,.int .i64 u.CV,w,.int .i64 u.back,.int .i64 u.front]
instance:aP Un where
 ty:=87
 sz:=6
 agg:=true
 fx:=[98]
 rep m u cs:=∃w,cs=u.c w/\Sl m u.shape w
 pos:=by decide
 one:=by intro h;cases h
 len:=by rintro _ _ _ ⟨w,rfl,_⟩;rfl
 kN:=by rintro _ _ _ ⟨w,rfl,h⟩;show(true && (true && (true && (one w && (true && (true && true))))))=true;rw[h.one];rfl
 bH:=by
  rintro m m' u cs ⟨w,rfl,h⟩ hk
  exact⟨w,rfl,h.bH λb c t g hb ht=>hk b c t g hb (by simpa[aP.ty,aP.fx]using ht)⟩
theorem JY:uF TE 29 87 Un:=⟨ag.t29,ag.t87,by kernel_rfl,⟨_,rfl⟩,rfl,by kernel_rfl,rfl,rfl⟩
abbrev Un.v(u:Un)(w:aed):aed:=.agg (u.c w).toArray
abbrev Un.zc:aee:=[.int .i64 0,.int .i64 0,.int .i64 0,.slice none 0 0,.int .i64 0,.int .i64 0]
theorem _root_.Go.D.Sl.VP{l:List Un}{v:aed}(h:Sl m l v){i:Nat}{u:Un}(hi:l[i]?=some u){k:IntKind}:∃a w,ak TE 29 v (.int k i)=some a/\ah TE m 87 a=some (u.v w)/\Sl m u.shape w:=by obtain⟨a,cs,F,h2,w,rfl,h3⟩:=h.index JY (k:=k) hi;exact⟨a,w,F,h2,h3⟩
theorem cg{b:Nat}{u:Un}{w:aed}{e:TypeId}{g:Option Nat}(h:m.get b=.cells (u.c w) e g):ah TE m 87 (aeb b 0)=some (u.v w):=by rw[rE,aJ h (by simp)];rfl
theorem Un.eN{u:Un}{w:aed}(hw:one w=true):(u.c w).all one=true:=by show(true && (true && (true && (one w && (true && (true && true))))))=true;rw[hw];rfl
def dO(F:Un->Un->Bool):List Un->Option Un->Option Un
 |[],o=>o
 |x::l,none=>dO F l (some x)
 |x::l,some b=>dO F l (some (if F x b then x else b))
theorem ot(F:Un->Un->Bool)(x:Un):∀(l:List Un) (o:Option Un),dO F (l++ [x]) o=match dO F l o with |none=>some x |some b=>some (if F x b then x else b)
 |[],none=>rfl
 |[],some b=>rfl
 |y::l,none=>ot F x l _
 |y::l,some b=>ot F x l _
def xX(m:M)(o:Option Un)(v:aed):Prop:=match o with |some u=>∃w,v=u.v w/\Sl m u.shape w |none=>v=.agg Un.zc.toArray
def IF(m:M)(b:Nat)(o:Option Un):Prop:=match o with |some u=>∃w,m.get b=.cells (u.c w) 87 none/\Sl m u.shape w |none=>m.get b=.cells Un.zc 87 none
theorem IF.load{b:Nat}{o:Option Un}(h:IF m b o):∃v,ah TE m 87 (aeb b 0)=some v/\xX m o v/\(cells v).length=6/\(cells v).all one=true/\m.get b=.cells (cells v) 87 none:=by
 cases o with
 |none=>have h:m.get b=.cells Un.zc 87 none:=h;refine⟨.agg Un.zc.toArray,?_,rfl,rfl,rfl,h⟩;rw[rE,aJ h (by simp)];rfl
 |some u=>obtain⟨w,h,F⟩:=h;exact⟨u.v w,cg h,⟨w,rfl,F⟩,rfl,Un.eN F.one,h⟩
theorem IF.aD{b:Nat}{o:Option Un}{m':M}(h:IF m b o)(F:Ext m m'):IF m' b o:=by
 cases o with
 |none=>exact F.cells h
 |some u=>obtain⟨w,h,hs⟩:=h;exact⟨w,F.cells h,hs.aD F⟩
theorem Mw(hX:cV X){l:List Un}{v:aed}{g:Fn}{fi ca:Array aed}(F:Un->Un->Bool)(hb:l.length < 4611686018427387904)(hl:Sl m l v)
  (hs:∀a b wa wb m1,Ext m m1->C X g (fi.toList++([a.v wa,b.v wb]++ca.toList)) m1 m1.n (.bool (F a b)) m1):
  ∃r m',C X (.func 132) [v,.func g fi ca] m m.n (.tuple #[r,.bool (dO F l none).isSome]) m'/\Ext m m'/\xX m' (dO F l none) r:=by
 have key:=Cl.gen (E:=TE) (X:=X) (f:=132) (args:=[v,.func g fi ca]) (m:=m) (R:=λv' m' b=>b=m.n/\Ext m m'/\∃r,v'=.tuple #[r,.bool (dO F l none).isSome]/\xX m' (dO F l none) r) (hX.no _ rfl) SH rfl ?_
 ·obtain⟨v',m',b,hc,rfl,hx,r,rfl,hr⟩:=key;exact⟨r,m',hc,hx,hr⟩
 rw[Zr];dsimp only[aI,δ,ζ,η,ι,κ,ο,υ,φ,χ];refine au λm1 V0 I0 J0=>?_;have C0:Ext m m1:=⟨by omega,λb hb=>J0 b hb⟩
 rw[(hl.aD C0).len JY,aE];simp only[ptrTo];refine Lp.intro (γ:=Nat) (λi=>l.length-i) (λi vs m2 lo=>vs=[.bool (dO F (l.take i) none).isSome,.int .i64 i]/\i<=l.length/\Ext m m2/\m.n < m2.n/\m.n<=lo/\IF m2 m.n (dO F (l.take i) none)) 0 ⟨rfl,aaQ _,C0,by omega,by omega,I0⟩ ?_;rintro i vs m2 nz ⟨rfl,hi,u0,X0,Y0,g0⟩;simp only[aH,aX,ae,an];refine aq (λz0=>?_) (λK0=>?_)
 ·have z0:i < l.length:=by simpa using z0
  obtain⟨u,hu⟩:∃u,l[i]?=some u:=⟨_,Φ z0⟩
  obtain⟨q,w,e1,e2,hw⟩:=(hl.aD u0).VP (k:=.i64) hu;rw[e1,ae,e2,ae];refine au λm3 a1 L0 M0=>?_;refine aC ep L0 rfl rfl (Un.eN hw.one) λm4 c1 D0 N0=>?_;have h0:Ext m2 m4:=⟨by omega,λb hb=>by rw[N0 b (by omega),M0 b hb]⟩
  have i0:Ext m m4:=u0.trans h0;have a0:=g0.aD h0;have O0:=hw.aD h0
  have j0:dO F (l.take (i+1)) none=match dO F (l.take i) none with |none=>some u |some b=>some (if F u b then u else b):=by rw[abo,hu];exact ot F u _ _
  refine cG (λvs m5 lo=>m4=m5/\m.n<=lo/\vs=[.bool (match dO F (l.take i) none with |none=>true |some b=>F u b)]) (λR hR=>?_) ?_
  ·cases ho:dO F (l.take i) none with
   |none=>simp only[ad1,bM,ae,an,aau,bU];exact hR _ _ _ ⟨rfl,by omega,by rw[ho]⟩
   |some b0=>simp only[ad2,bM,ae,an,aal,aM];rw[ho]at a0;obtain⟨w0,P0,d1⟩:=a0;rw[cg D0,ae,cg P0,ae,bY];refine az (hs u b0 w w0 m4 i0) ?_;exact hR _ _ _ ⟨rfl,by have:=i0.n;omega,by rw[ho]⟩
  rintro _ _ g1 ⟨rfl,E0,rfl⟩;rw[aH,an];refine aq (λht=>?_) (λhf=>?_)
  ·rw[cg D0,ae];obtain⟨v0,_,_,A0,F0,k0⟩:=a0.load;refine aC ep k0 rfl (by rw[A0];rfl) (Un.eN hw.one) λm6 Q0 l0 r0=>?_;simp only[aQ,ae];rw[wrap64 (by omega) (by omega)]
   have d0:dO F (l.take (i+1)) none=some u:=by
    rw[j0]
    cases ho:dO F (l.take i) none with
    |none=>rfl
    |some b0=>rw[ho]at ht;dsimp only at ht⊢;rw[aaf ht]
   have S0:Ext m m6:=⟨by have:=i0.n;omega,λb hb=>by rw[r0 b (by omega),i0.get b hb]⟩
   refine⟨i+1,by omega,by rw[d0];simp,by omega,S0,by omega,by omega,?_⟩;rw[d0];refine⟨w,l0,(O0.bH λb c t g hb T0=>?_)⟩;by_cases o0:b=m.n
   ·subst o0;rw[k0]at hb;cases hb;simp[aP.ty,aP.fx]at T0
   rw[r0 b o0,hb]
  simp only[aQ,ae];rw[wrap64 (by omega) (by omega)]
  have d0:dO F (l.take (i+1)) none=dO F (l.take i) none:=by
   rw[j0]
   cases ho:dO F (l.take i) none with
   |none=>rw[ho]at hf;cases hf
   |some b0=>rw[ho]at hf;dsimp only at hf⊢;rw[aaa (by rw[hf];simp)]
  exact⟨i+1,by omega,by rw[d0];simp,by omega,i0,by omega,E0,by rw[d0];exact a0⟩
 ·have U0:i=l.length:=by
   have:¬(i:Int)< (l.length:Int):=by simpa using K0
   omega
  rw[U0,abB]at g0⊢
  obtain⟨v0,e0,ho,A0,F0,k0⟩:=g0.load
  rw[e0,ae]
  refine aC ep k0 (by rw[A0];rfl) rfl F0 λm6 Q0 l0 r0=>?_
  have B0:∀b,m6.get b=m2.get b:=λb=>by
   by_cases o0:b=m.n;·subst o0;rw[l0,k0]
   exact r0 b o0
  have s0:Ext m2 m6:=⟨by omega,λb _=>B0 b⟩
  obtain⟨v7,e7,q0,_⟩:=(g0.aD s0).load
  rw[e7,ae]
  cases G0:bP (aO [v7,.bool (dO F l none).isSome])with
  |false=>exact .inr ⟨.inl rfl,by omega,u0.trans s0,v7,rfl,q0⟩
  |true=>
   refine .inl ⟨rfl,by omega,by first |rfl |trivial,.refl,v7,rfl,?_⟩
   cases H0:dO F l none with
   |none=>rw[H0]at q0;exact q0
   |some u=>
    rw[H0]at q0 G0;obtain⟨w,rfl,hw⟩:=q0;refine⟨w,rfl,?_⟩;rcases hw with h |⟨b,o,c,bc,g,rfl,_⟩;·exact .inl h
    cases G0
end
section
variable {X:aG} {m:M}
def Uf(o:Option Un):Int:=match o with |some u=>u.id |none=> -1
theorem UR(hX:cV X){o:Option Un}{v:aed}(h:xX m o v):C X (.func 131) [v,.bool o.isSome] m m.n (.int .i64 (Uf o)) m:=by
 refine Cl.flat (hX.no _ rfl) SI rfl rfl ?_
 rw[Zs];dsimp only[aI,δ,ε,ο,ς,φ,χ]
 refine au λm1 a0 F b0=>?_
 cases o with
 |none=>simp only[ad1,bM,ae,an,aau,bU];exact⟨rfl,Ξ _⟩
 |some u=>obtain⟨w,rfl,hw⟩:=h;simp only[bB]at F;simp only[ad2,bM,ae,an,aal,aM,ae,aE,bY,an,bU,aM,dj,aX,cO,dq,aY,da,bM,ptrTo,bT,dF,aaq,Nat.reduceAdd,aad,aah,aa0,aaT,aa6,abi,aag,bB,ee,dJ,dw,ec,ed,dI,bE,cd,aF F];exact⟨rfl,Ξ _⟩
theorem Nf(hX:cV X)(a b:Un)(wa wb:aed):C X (.func 133) [a.v wa,b.v wb] m m.n (.bool (decide (a.back < b.back))) m:=by refine Cl.flat (hX.no _ rfl) SG rfl rfl ?_;rw[Zq];dsimp only[aI,δ,ε,η,ς,φ];refine au λm1 d0 a0 e0=>?_;refine au λm2 g0 F b0=>?_;have g1:=(b0 m.n (by omega)).trans a0;simp only[bB]at g1 F;simp only[ae,aE,bY,an,bU,aM,dj,aX,cO,dq,aY,da,bM,ptrTo,bT,dF,aaq,Nat.reduceAdd,aad,aah,aa0,aaT,aa6,abi,aag,bB,ee,dJ,dw,ec,ed,dI,ff,cd,aF g1,aF F];exact⟨rfl,Ξ _⟩
theorem HJ(hX:cV X)(a b:Un)(wa wb:aed):C X (.func 134) [a.v wa,b.v wb] m m.n (.bool (decide (b.front < a.front))) m:=by refine Cl.flat (hX.no _ rfl) SF rfl rfl ?_;rw[Zp];dsimp only[aI,δ,ε,η,ς,φ];refine au λm1 d0 a0 e0=>?_;refine au λm2 g0 F b0=>?_;have g1:=(b0 m.n (by omega)).trans a0;simp only[bB]at g1 F;simp only[ae,aE,bY,an,bU,aM,dj,aX,cO,dq,aY,da,bM,ptrTo,bT,dF,aaq,Nat.reduceAdd,aad,aah,aa0,aaT,aa6,abi,aag,bB,ee,dJ,dw,ec,ed,dI,fc,cd,aF g1,aF F];exact⟨rfl,Ξ _⟩
theorem Oe{n:Int}:aK TE m 25 1 [(0,.int .i64 n)]=some (.slice (some ⟨m.n,0,none⟩) 1 1,m.push (.cells [.int .i64 n] 3 none)):=by kernel_rfl
theorem Dp{n:Int}{b:Nat}{g:Option Nat}(h:m.get b=.cells [.int .i64 n] 3 g):Sl m [n] (aec b 0 1 1):=
 .inr ⟨b,0,1,_,g,rfl,h,Ξ _,λi x hi=>by
  match i with
  |0=>cases hi;rfl
  |i+1=>cases hi⟩
theorem _root_.Go.D.Ow.PA{n1:Nat}{l:List Int}{v:aed}{n:Int}{P:aed->M->Prop}(h:Ow n1 m l v)(hn:n1<=m.n)(hs:l.length < 268435456)
  (hP:∀v1 m1,Ow n1 m1 (l++ [n]) v1->CX n1 m m1->n1<=m1.low->m.n<=m1.n->P v1 m1):
  aT (aK TE m 25 1 [(0,.int .i64 n)]) λa m1=>aT (av TE (m1.wl m1.n) .append [25,25] [v,a]) P:=by rw[Oe,aE];have F:Ext m (m.push (.cells [.int .i64 n] 3 none)):=Ext.refl.push;have a0:(m.push (.cells [.int .i64 n] 3 none)).n=m.n+1:=rfl;obtain⟨v1,m1,e1,ho,hf,hl,_⟩:=(h.aD F).append Pz (by simp[aP.ty,aP.fx]) (Dp (m:=m.push (.cells [.int .i64 n] 3 none)) M.bJ) (by omega) (by simp;omega);rw[e1,aE];exact hP v1 m1 ho ((F.fr hn).trans hf) hl (by have:=hf.n;omega)
def tR(g:Nat->Nat->Int)(w j:Nat):List Int:=(List.range w).map λi=>g i j
def jX(g:Nat->Nat->Int)(w h:Nat):List Int:=(List.range h).flatMap (tR g w)
theorem GV{g:Nat->Nat->Int}{i j:Nat}:tR g (i+1) j=tR g i j++ [g i j]:=by simp[tR,adg]
theorem qw{g:Nat->Nat->Int}{w j:Nat}:jX g w (j+1)=jX g w j++tR g w j:=by simp[jX,adg]
theorem Bh{g:Nat->Nat->Int}{w j:Nat}:(tR g w j).length=w:=by simp[tR]
theorem e9{g:Nat->Nat->Int}{w:Nat}:∀h,(jX g w h).length=h*w
 |0=>by simp[jX]
 |h+1=>by rw[qw,aam,e9 h,Bh,aao,abg]
abbrev qO(w h:Int)(v:aed):aed:=.agg #[.int .i64 w,.int .i64 h,v]
theorem Ok(hX:cV X){w h:Nat}(hw:w<=1000)(hh:h<=1000){g:Fn}{fi ca:Array aed}(gz:Nat->Nat->Int)
  (hg:∀i j m1,i < w->j < h->Ext m m1->C X g (fi.toList++([.int .i64 i,.int .i64 j]++ca.toList)) m1 m1.n (.int .i64 (gz i j)) m1) (k0:0 < w/\0 < h):
  ∃v m',C X (.func 68) [.int .i64 w,.int .i64 h,.func g fi ca] m m.n (qO w h v) m'/\Ext m m'/\Ow m.n m' (jX gz w h) v:=by
 have key:=Cl.heap (E:=TE) (X:=X) (f:=68) (args:=[.int .i64 w,.int .i64 h,.func g fi ca]) (m:=m) (R:=λv' m' b=>b=m.n/\Ext m m'/\∃v,v'=qO w h v/\Ow m.n m' (jX gz w h) v) (hX.no _ rfl) Vm rfl ?_
 ·obtain⟨v',m',b,hc,rfl,hx,v,rfl,hr⟩:=key;exact⟨v,m',hc,hx,hr⟩
 rw[F68];dsimp only[aI,δ,ε,η,θ,ι,κ,ν,υ,φ,χ];refine au λm1 u1 T0 U0=>?_;rw[At rfl rfl,ae];refine au λm3 v1 V0 F0=>?_;simp only[ptrTo];refine aC uR V0 rfl rfl rfl λm4 w1 X0 G0=>?_;have Y0:Ext m m4:=⟨by omega,λb F=>by rw[G0 b (by omega),F0 b (by omega),U0 b F]⟩
 have a1:m4.get m.n=.cells [.int .i64 0,.int .i64 0,aeg] 27 none:=by rw[G0 _ (by omega),F0 _ (by omega),T0]
 refine Lp.intro (γ:=Nat) (λj=>h-j) (λj vs m8 lo=>vs=[.int .i64 j]/\j<=h/\Ext m m8/\m.n+2<=m8.n/\m.n<=lo/\(∃v,m8.get m1.n=.cells [.int .i64 w,.int .i64 h,v] 27 none/\Ow (m.n+2) m8 (jX gz w j) v)/\∃cs,m8.get m.n=.cells cs 27 none/\cs.length=3) 0 ⟨rfl,aaQ _,Y0,by omega,by omega,⟨_,X0,Ow.nil⟩,_,a1,rfl⟩ ?_;rintro j vs m8 z1 ⟨rfl,hj,v0,c1,H0,⟨v8,I0,z0⟩,d1,A0,l0⟩;simp only[aH,aX,ae,an];refine aq (λB0=>?_) (λe1=>?_)
 ·have B0:j < h:=by simpa using B0
  refine Lp.intro (γ:=Nat) (λi=>w-i) (λi vs m9 lo=>vs=[.int .i64 i]/\i<=w/\Ext m m9/\m.n+2<=m9.n/\m.n<=lo/\(∃v,m9.get m1.n=.cells [.int .i64 w,.int .i64 h,v] 27 none/\Ow (m.n+2) m9 (jX gz w j++tR gz i j) v)/\∃cs,m9.get m.n=.cells cs 27 none/\cs.length=3) 0 ⟨rfl,aaQ _,v0,c1,H0,⟨v8,I0,by simpa[tR]using z0⟩,d1,A0,l0⟩ ?_;rintro i vs m9 A1 ⟨rfl,hi,i0,J0,K0,⟨v9,C0,D0⟩,E0,L0,o0⟩;simp only[aH,aX,ae,an];refine aq (λa0=>?_) (λM0=>?_)
  ·have a0:i < w:=by simpa using a0
   rw[eF,ae,lK,aF C0];simp only[aaq,aad,aah,ae,bY];refine az (hg i j m9 a0 B0 i0) ⟨Ξ _,?_⟩
   have g1:(jX gz w j++tR gz i j).length < 268435456:=by rw[aam,e9,Bh];have:j*w<=1000*1000:=adJ (by omega) hw;omega
   refine D0.PA J0 g1 λv10 N0 b0 d0 o1 p1=>?_;have q0:N0.get m1.n=.cells [.int .i64 w,.int .i64 h,v9] 27 none:=by rw[d0.get _ (by omega),C0]
   have O0:N0.get m.n=.cells E0 27 none:=by rw[d0.get _ (by omega),L0]
   have j0:cells v10=[v10]:=b0.sl.cells;refine bW EV q0 (by rw[j0];rfl) (by rw[j0];exact Ξ _) (by rw[j0];simp[b0.sl.one]) λB1 r1 r0 e0=>?_;simp only[aQ,ae];rw[wrap64 (by omega) (by omega)];rw[j0]at r0;refine⟨i+1,by omega,by simp,by omega,⟨by have:=i0.n;omega,λb F=>by rw[e0 b (by omega),d0.get b (by omega),i0.get b F]⟩,by omega,by omega,⟨v10,r0,?_⟩,E0,by rw[e0 _ (by omega),O0],o0⟩;rw[GV,<-aa7];refine b0.bH λb c t g F ht=>?_;by_cases g0:b=m1.n
   ·subst g0;rw[q0]at F;cases F;simp[aP.ty,aP.fx]at ht
   rw[e0 b g0,F]
  have h1:i=w:=by
   have:¬(i:Int)< (w:Int):=by simpa using M0
   omega
  simp only[aQ,ae];rw[wrap64 (by omega) (by omega)];exact⟨j+1,by omega,by simp,by omega,i0,J0,K0,⟨v9,C0,by rw[qw];rw[h1]at D0;exact D0⟩,E0,L0,o0⟩
 have i1:j=h:=by
  have:¬(j:Int)< (h:Int):=by simpa using e1
  omega
 subst i1;have e:ah TE m8 27 (aeb m1.n 0)=some (qO w j v8):=by rw[kh,aJ I0 (by simp)];rfl
 rw[e,ae];have P0:one v8=true:=z0.sl.one;refine aC uR A0 rfl (by rw[l0];rfl) (by show(true && (true && (one v8 && true)))=true;rw[P0];rfl) λQ0 s1 S0 s0=>?_;have e2:ah TE Q0 27 (aeb m.n 0)=some (qO w j v8):=by rw[kh,aJ S0 (by simp[bB])];rfl
 rw[e2,ae]
 have u0:Ow (m.n+2) Q0 (jX gz w j) v8:=z0.bH λb c t g F ht=>by
  by_cases g0:b=m.n
  ·subst g0;rw[A0]at F;cases F;simp[aP.ty,aP.fx]at ht
  rw[s0 b g0,F]
 have j1:bP (aO [qO w j v8])=false:=by
  have k1:jX gz w j≠ []:=λe=>by have:=congrArg List.length e;rw[e9]at this;have:=ad8 k0.2 k0.1;simp at*;omega
  rcases u0 with⟨_,h0⟩ |⟨b,cs,rfl,_⟩;·exact absurd h0 k1
  rfl
 exact⟨.inl j1,by omega,⟨by have:=v0.n;omega,λb F=>by rw[s0 b (by omega),v0.get b F]⟩,v8,rfl,u0.mono (by omega)⟩
end
section
section
variable {W:Words}{x0 x1 x2 x3 x4 x5 x6 x7:aed}{m:M}{R RP:aee->M->Nat->Prop}{CP:Fn->aee->M->(M->Nat->Prop)->Prop}
theorem F25:dm TE W Tryz.f25 [x0] m R=ς W m x0 27 λa=>W.jn (λb=>ε W 27 (φ m) 0 λc=>δ W a 3 c λc=>ψ W 66 [c,χ 1,χ 40] a λa c d=>bD a (ε W 27 (φ m) 1 λa=>δ W c 3 a λa=>ψ W 66 [a,χ 1,χ 40] c λa c f=>bD a (ε W 27 (φ m) 2 λa=>δ W c 25 a λa=>κ W c .len [25] [a] λa _=>ε W 27 (φ m) 0 λg=>δ W c 3 g λg=>ε W 27 (φ m) 1 λh=>δ W c 3 h λh=>η W .mul 3 g h λg=>η W .eql 3 a g λa=>bD a (ε W 27 (φ m) 2 λa=>δ W c 25 a λa=>ψ W 82 [a,.func (.func 81) #[] #[]] c λa c g=>ο W .not a λa=>b [a] c (min (min (min m.n d) f) g)) (b [aei] c (min (min m.n d) f))) (b [aei] c (min (min m.n d) f))) (b [aei] c (min m.n d))) (λa b c=>W.un a λa _=>R [a] b c):=by kernel_rfl
theorem F81:dm TE W Tryz.f81 [x0] m R=ψ W 66 [x0,χ (-1),χ 99] m λa b c=>ο W .not a λa=>R [a] b (min m.n c):=by kernel_rfl
theorem F66:dm TE W Tryz.f66 [x0,x1,x2] m R=W.jn (λa=>η W .leq 3 x1 x0 λb=>bD b (η W .leq 3 x0 x2 λb=>a [b] m m.n) (a [aei] m m.n)) (λa b c=>W.un a λa _=>R [a] b c):=by kernel_rfl
theorem F82:dm TE W Tryz.f82 [x0,x1] m R=ψ W 143 [x0,x1] m λa b c=>η W .geq 3 a (χ 0) λa=>R [a] b (min m.n c):=by kernel_rfl
theorem F44:dm TE W Tryz.f44 [x0,x1,x2] m R=ς W m x0 27 λa=>W.jn (λb=>η W .lss 3 x1 (χ 0) λc=>bD c (b [aeh] a m.n) (ε W 27 (φ m) 0 λc=>δ W a 3 c λc=>η W .geq 3 x1 c λc=>bD c (b [aeh] a m.n) (η W .lss 3 x2 (χ 0) λc=>bD c (b [aeh] a m.n) (ε W 27 (φ m) 1 λc=>δ W a 3 c λc=>η W .geq 3 x2 c λc=>bD c (b [aeh] a m.n) (ε W 27 (φ m) 0 λc=>δ W a 3 c λc=>η W .mul 3 x2 c λc=>η W .add 3 c x1 λc=>ε W 27 (φ m) 2 λd=>δ W a 25 d λd=>κ W a .len [25] [d] λd _=>η W .geq 3 c d λc=>b [c] a m.n))))) (λa b c=>W.un a λa _=>bD a (R [χ (-2)] b c) (ε W 27 (φ m) 2 λa=>δ W b 25 a λa=>ε W 27 (φ m) 0 λd=>δ W b 3 d λd=>η W .mul 3 x2 d λd=>η W .add 3 d x1 λd=>ζ W 25 a d λa=>δ W b 3 a λa=>R [a] b c)):=by kernel_rfl
theorem F21:dm TE W Tryz.f21 [x0,x1] m R=ς W m x0 27 λa=>ς W a x1 27 λb=>W.jn (λc=>δ W b 27 (φ m) λd=>ψ W 25 [d] b λb d f=>ο W .not b λb=>bD b (c [aeh] d (min m.n f)) (δ W d 27 (φ a) λb=>ψ W 25 [b] d λb d g=>ο W .not b λb=>bD b (c [aeh] d (min (min m.n f) g)) (ε W 27 (φ m) 0 λb=>δ W d 3 b λb=>ε W 27 (φ a) 0 λh=>δ W d 3 h λh=>η W .neq 3 b h λb=>bD b (c [aeh] d (min (min m.n f) g)) (ε W 27 (φ m) 1 λb=>δ W d 3 b λb=>ε W 27 (φ a) 1 λa=>δ W d 3 a λa=>η W .neq 3 b a λa=>c [a] d (min (min m.n f) g))))) (λb c d=>W.un b λb _=>bD b (R [aeg,χ 410] c d) (ε W 27 (φ m) 2 λb=>δ W c 25 b λb=>κ W c .len [25] [b] λf _=>W.Lp (λc d g h=>W.un d λd i=>W.un i λi _=>η W .lss 3 i f λf=>bD f (ζ W 25 b i λb=>δ W g 3 b λb=>ε W 27 (φ a) 2 λa=>δ W g 25 a λa=>ζ W 25 a i λa=>δ W g 3 a λa=>η W .neq 3 b a λa=>bD a (ε W 27 (φ m) 0 λa=>δ W g 3 a λa=>η W .rem 3 i a λa=>ε W 27 (φ m) 0 λb=>δ W g 3 b λb=>η W .quo 3 i b λb=>θ W 98 [(0,a),(1,b)] λa=>ν W g 45 1 [(0,a)] λa b=>κ W (M.wl b b.n) .append [45,45] [d,a] λa b=>η W .add 3 i (χ 1) λd=>c [a,d] b (min h (M.low b))) (η W .add 3 i (χ 1) λa=>c [d,a] g h)) (R [d,χ 0] g h)) [aeg,χ 0] c d)):=by kernel_rfl
end
end
section
variable {X:aG} {m:M}
def cU(c n:Int):Int:=if c < 0 then(-(c+1))%n else c%n
theorem ml{c n:Int}(F:0 < n):0<=cU c n/\cU c n < n:=by
 unfold cU;split;·exact⟨Int.emod_nonneg _ (by omega),ad3 _ F⟩
 exact⟨Int.emod_nonneg _ (by omega),ad3 _ F⟩
def lu(c:Int):Prop:= -9223372036854775808<=c/\c < 9223372036854775808
theorem yO{c n:Int}(hc:lu c)(hn:0 < n){P:aed->Prop}(h:P (.int .i64 (cU c n))):
  aj (aw TE .lss 3 (.int .i64 c) (.int .i64 0)) λv1=>bD v1 (aj (aw TE .add 3 (.int .i64 c) (.int .i64 1)) λv2=>aj (gU .neg v2) λv3=>aj (aw TE .rem 3 v3 (.int .i64 n)) λv4=>P v4) (aj (aw TE .rem 3 (.int .i64 c) (.int .i64 n)) λv5=>P v5):=by
 obtain⟨h1,h2⟩:=hc;simp only[aX,ae,an];refine aq (λF=>?_) (λF=>?_)
 ·have F:c < 0:=by simpa using F
  simp only[aQ,ae];rw[wrap64 (by omega) (by omega),zy,ae,wrap64 (by omega) (by omega),pA (by omega),ae]
  have:cU c n=(0-(c+1)).tmod n:=by unfold cU;rw[aaf F,adq (by omega),Int.zero_sub]
  rw[<-this];exact h
 have F:¬c < 0:=by simpa using F
 rw[pA (by omega),ae]
 have:cU c n=c.tmod n:=by unfold cU;rw[aaa F,adq (by omega)]
 rw[<-this];exact h
def eA(n lo hi:Int):Bool:=decide (lo<=n) && decide (n<=hi)
theorem so(hX:cV X)(n lo hi:Int):C X (.func 66) [.int .i64 n,.int .i64 lo,.int .i64 hi] m m.n (.bool (eA n lo hi)) m:=by
 refine Cl.flat (hX.no _ rfl) Vo rfl rfl ?_;rw[F66];dsimp only[aI,η];refine cG (λvs m2 F=>vs=[.bool (eA n lo hi)]/\m.n<=F) (λR hR=>?_) ?_
 ·simp only[dj,ae,an];refine aq (λh=>hR _ _ _ ⟨by simp[eA,h],Ξ _⟩) (λh=>hR _ _ _ ⟨by simp[eA,h],Ξ _⟩)
 rintro _ m2 F ⟨rfl,hl⟩;rw[aH];exact⟨rfl,hl⟩
theorem TB(F:cV X)(n:Int):C X (.func 81) [.int .i64 n] m m.n (.bool (!(eA n (-1) 99))) m:=by refine Cl.flat (F.no _ rfl) Vl rfl rfl ?_;rw[F81];dsimp only[aI,ο,χ,ψ];refine az (so F _ _ _) ?_;simp only[bM,ae];exact⟨rfl,by omega⟩
theorem wQ(F:cV X){l:List Int}{v:aed}{g:Fn}{fi ca:Array aed}(p:Int->Bool)(hb:l.length < 4611686018427387904)(hl:Sl m l v)
  (hs:∀x∈l,C X g (fi.toList++([.int .i64 x]++ca.toList)) m m.n (.bool (p x)) m):C X (.func 82) [v,.func g fi ca] m m.n (.bool (l.any p)) m:=by refine Cl.flat (F.no _ rfl) Vk rfl rfl ?_;rw[F82];dsimp only[aI,η,χ,ψ];refine az (ki lC (F.no _ rfl) SB rfl Lj p hb hl λx hx cs hr=>by rw[show cs=[.int .i64 x]from hr];exact hs x hx) ?_;simp only[cO,ae,qv,aO];exact⟨trivial,by omega⟩
def Ip(w h:Int)(l:List Int):Bool:=eA w 1 40 && eA h 1 40 && decide ((l.length:Int)=w*h) && !(l.any λn=> !(eA n (-1) 99))
theorem wJ(hX:cV X){w h:Int}{l:List Int}{v:aed}(hl:Sl m l v)(hb:l.length < 4611686018427387904):C X (.func 25) [qO w h v] m m.n (.bool (Ip w h l)) m:=by
 refine Cl.flat (hX.no _ rfl) VC rfl rfl ?_;rw[F25];dsimp only[aI,δ,ε,η,κ,ο,ς,φ,χ,ψ];refine au λm1 g0 F b0=>?_;simp only[bB]at F;have d0:Ext m m1:=⟨by omega,λb hb=>b0 b hb⟩
 have a0:=hl.aD d0;refine cG (λvs m2 lo=>vs=[.bool (Ip w h l)]/\m.n<=lo) (λR hR=>?_) ?_
 ·simp only[ae,aE,bY,an,bU,aM,dj,aX,cO,dq,aY,da,bM,ptrTo,bT,dF,aaq,Nat.reduceAdd,aad,aah,aa0,aaT,aa6,abi,aag,bB,ee,dJ,dw,ec,ed,dI,eG,fg,eF,vY,lK,cd,aF F];refine az (so hX _ _ _) ?_;simp only[an];refine aq (λh1=>?_) (λh1=>hR _ _ _ ⟨by simp[Ip,h1],by omega⟩);simp only[ae,aE,bY,an,bU,aM,dj,aX,cO,dq,aY,da,bM,ptrTo,bT,dF,aaq,Nat.reduceAdd,aad,aah,aa0,aaT,aa6,abi,aag,bB,ee,dJ,dw,ec,ed,dI,eG,fg,eF,vY,lK,cd,aF F];refine az (so hX _ _ _) ?_;simp only[an];refine aq (λh2=>?_) (λh2=>hR _ _ _ ⟨by simp[Ip,h2],by omega⟩);simp only[ae,aE,bY,an,bU,aM,dj,aX,cO,dq,aY,da,bM,ptrTo,bT,dF,aaq,Nat.reduceAdd,aad,aah,aa0,aaT,aa6,abi,aag,bB,ee,dJ,dw,ec,ed,dI,eG,fg,eF,vY,lK,cd,aF F];rw[a0.len lC,aE];have b1:1<=w/\w<=40:=by simpa[eA]using h1
  have b2:1<=h/\h<=40:=by simpa[eA]using h2
  have h0: -(40*40)<=w*h/\w*h<=40*40:=pf (by omega) (by omega) (by omega) (by omega);simp only[ej,aY,ae,an];rw[wrap64 (by omega) (by omega)];refine aq (λh3=>?_) (λh3=>hR _ _ _ ⟨by simp[Ip,h3],by omega⟩);refine az (wQ (m:=m1) hX (λn=> !(eA n (-1) 99)) hb a0 λx _=>TB hX x) ?_;simp only[bM,ae];exact hR _ _ _ ⟨by simp[Ip,h1,h2,h3],by omega⟩
 rintro _ m2 lo ⟨rfl,e0⟩;rw[aH];exact⟨rfl,e0⟩
end
section
open Go Go.D Go.ChangeShapes
def iM(c:Array aed):aee:=c.toList.map λv=>bif cy v then v else undef
def KE:Option Obj->Ob
 |some (.cells c _ _)=> .ro (iM c)
 |_=> .dead
def Rc(W:World):Nat->M
 |0=>{st:=.e,n:=0,low:=0}
 |k+1=>(Rc W k).push (KE W.heap[k]?)
theorem Fu(W:World):∀k,(Rc W k).n=k
 |0=>rfl
 |k+1=>by
  show(Rc W k).n+1=k+1
  rw[Fu W k]
theorem Fv(W:World):∀k b,b < k->(Rc W k).get b=KE W.heap[b]?
 |k+1,b,h=>by
  show((Rc W k).push (KE W.heap[k]?)).get b=_
  by_cases F:b=k
  ·subst F
   have:=M.bJ (m:=Rc W b) (o:=KE W.heap[b]?)
   rw[Fu]at this
   exact this
  ·rw[M.cE (by rw[Fu];omega)]
   exact Fv W k b (by omega)
def fy(W:World):M:=(Rc W W.heap.size).wl W.heap.size
theorem sw(W:World):(fy W).n=W.heap.size:=Fu W _
theorem tm(W:World){b:Nat}(h:b < W.heap.size):(fy W).get b=KE W.heap[b]?:=Fv W _ b h
def uZ(W:World):Sg:=λb=>if b < W.heap.size then some ⟨b,none⟩else none
theorem km{W:World}{b:Nat}{i:BI}(h:uZ W b=some i):b < W.heap.size/\i=⟨b,none⟩:=by
 unfold uZ at h;by_cases F:b < W.heap.size;·rw[aaf F]at h;cases h;exact⟨F,rfl⟩
 rw[aaa F]at h;cases h
theorem Bc{W:World}(hW:2 < W.heap.size):dY Tryz.prog (uZ W) (fy W) W:=by
 refine⟨λb i F=>?_,λb i F=>?_,λb i F=>?_,λb b' i i' F b0 _ _ he=>?_,λg hg=>?_⟩;·rw[sw];exact(km F).1
 ·obtain⟨h,rfl⟩:=km F
  rw[tm W h]
  cases ho:W.heap[b]? with
  |none=>trivial
  |some o=>
   cases o with
   |cells c e fz=>
    refine⟨rfl,c,e,fz,ho,by simp[iM],λj u u' hu d0 h1=>?_⟩
    have a0:(iM c)[j]?=some (bif cy u' then u' else undef):=by unfold iM;rw[aaA,aaY,d0];rfl
    rw[hu]at a0
    simp only[aae]at a0
    subst a0
    cases hf:cy u' with
    |true=>exact .flat _ hf
    |false=>rw[hf]at h1;cases h1
   |_=>trivial
 ·obtain⟨h,rfl⟩:=km F;exact h
 ·obtain⟨_,rfl⟩:=km F;obtain⟨_,rfl⟩:=km b0;exact he
 have e0:Tryz.prog.globals.size=3:=by kernel_rfl
 rw[e0]at hg;unfold uZ;rw[aaf (by omega)]
theorem oA{α:Type}{Q:Nat->α->Prop}:∀n,(∀i,i < n->∃y,Q i y)->∃l:List α,l.length=n/\∀i y,l[i]?=some y->Q i y
 |0,_=>⟨[],rfl,λi y h=>by simp at h⟩
 |n+1,h=>by
  obtain⟨l,hl,hq⟩:=oA n λi hi=>h i (by omega)
  obtain⟨y,hy⟩:=h n (by omega)
  refine⟨l++ [y],by simp[hl],λi z F=>?_⟩
  by_cases hi:i < n
  ·rw[aa9 (by omega)]at F
   exact hq i z F
  ·rw[aa1 (by omega),hl]at F
   obtain rfl:i=n:=by
    have:=(Ω.1 F).1
    simp at this;omega
   simp at F
   subst F
   exact hy
section
variable {H:Type} {enc:TypeId×aed->H} {W:World} {sp:Nat->Bool} {held:Bool} {base:Nat}
set_option maxRecDepth 10000 in
theorem Dr{t e:TypeId}{α:Type}[aP α]{Py:α->Prop}{v:aed}{fuel:Nat}{x:DataW H×List MemPlace}(ht:Tryz.prog.underlying t=some (.slice e))(k0:Tryz.prog.cellsOf e=aP.sz α)
  (l0:∀fuel cs x,DataW.trod enc Tryz.prog W 0 sp held fuel e cs=some x->∃y:α,Py y/\(∀m,aP.rep m y cs)/\∀u∈cs,cy u=true)
  (e0:Cell.okWide Tryz.prog W .any base t v) (h:DataW.trod enc Tryz.prog W 0 sp held fuel t [v]=some x):
  aS (uZ W) v v/\∃l:List α,IE (fy W) l v/\l.length < 9223372036854775808/\∀y∈l,Py y:=by
 rcases DataW.trod_slice ht h with⟨hv,_⟩ |⟨a,len,cap,elems,rest,n,rfl,hv,rfl,hb,hl,hm,hlen,g0,_,_⟩
 ·simp only[List.cons.injEq,and_true]at hv;subst hv;exact⟨.flat _ rfl,[],.inl ⟨rfl,rfl⟩,by simp,λy hy=>by cases hy⟩
 ·simp only[List.cons.injEq,and_true]at hv
  subst hv
  simp only[Cell.okWide,Cell.ok,ht]at e0
  obtain⟨_,_,_,a0,row,cells,F,_⟩:=e0
  obtain⟨dg,off,A0⟩:=a
  dsimp only at a0 F hb
  subst a0
  unfold World.shape? at F
  cases ho:W.heap[dg]? with
  |none=>rw[ho]at F;cases F
  |some o=>
   rw[ho]at F
   cases o with
   |cells c e' fz=>
    have h0:dg < W.heap.size:=(aaF.1 ho).1;have o0:uZ W dg=some ⟨dg,none⟩:=by unfold uZ;rw[aaf h0]
    refine⟨.slice ⟨dg,off,none⟩ ⟨dg,none⟩ len cap o0 rfl rfl,?_⟩;have z0:=aP.pos (α:=α)
    obtain⟨l,q0,hq⟩:=oA (Q:=λi (y:α)=>Py y/\off+i*aP.sz α+aP.sz α<=(iM c).length/\aP.rep (fy W) y (((iM c).drop (off+i*aP.sz α)).take (aP.sz α))) len λi hi=>by
     have he:=g0 i hi;rw[Φ (by omega)]at he;obtain⟨d0,r0,s0⟩:=acG.1 he;obtain⟨y,hy,i0,u0⟩:=l0 _ _ _ s0;obtain⟨_,v0,j0⟩:=World.cells?_some r0;rw[k0]at v0 j0
     have b0:∀j,j < aP.sz α->c[off+i*aP.sz α+j]?=d0[j]?:=λj hj=>by have:=j0 j hj;rw[D.eo,D.eo]at this;rw[<-this];simp only[World.cell?,ho];rfl
     have hbound:off+i*aP.sz α+aP.sz α<=(iM c).length:=by have:=b0 (aP.sz α-1) (by omega);rw[Φ (by omega)]at this;have:=(aaF.1 this).1;unfold iM;rw[aaB,aas];omega
     refine⟨y,hy,hbound,?_⟩
     have:((iM c).drop (off+i*aP.sz α)).take (aP.sz α)=d0:=by
      apply abt;intro j;by_cases hj:j < aP.sz α
      ·rw[aaI hj,aaW]
       unfold iM
       rw[aaA,aaY,b0 j hj]
       cases hu:d0[j]? with
       |none=>rfl
       |some u=>rw[aag,u0 u (aac hu)];rfl
      rw[abb (by rw[aap];omega),abb (by omega)]
     rw[this];exact i0 _
    refine⟨l,.inr ⟨dg,off,cap,iM c,by rw[q0],?_,λi y hi=>⟨(hq i y hi).2.1,(hq i y hi).2.2⟩⟩,?_,λy hy=>?_⟩
    ·rw[tm W h0,ho];rfl
    ·have:maxLen < 9223372036854775808:=by unfold maxLen;decide
     omega
    obtain⟨i,hi⟩:=abU.1 hy;exact(hq i y hi).1
   |_=>cases F
theorem zY{t:TypeId}{n:Nat}{cs:aee}{fuel:Nat}{x:DataW H×List MemPlace}(ht:Tryz.prog.underlying t=some (.array n 3))(a0:Tryz.prog.cellsOf t=n)
  (h:DataW.trod enc Tryz.prog W 0 sp held fuel t cs=some x):∃l:List Int,cs=l.map (.int .i64)/\l.length=n/\∀z∈l,lu z:=by
 obtain⟨xs,m,rfl,rfl,b0,i0,d0⟩:=DataW.trod_array ht h;rw[a0]at b0;have h3:Tryz.prog.underlying 3=some (.int .i64):=by kernel_rfl
 have e0:Tryz.prog.cellsOf 3=1:=by kernel_rfl
 obtain⟨l,hl,hq⟩:=oA (Q:=λi (z:Int)=>cs[i]?=some (.int .i64 z)/\lu z) n λi hi=>by
  have:=d0 i hi;rw[e0,Φ (by omega)]at this;obtain⟨z,F,_,g0⟩:=DataW.trod_int h3 this;refine⟨z,?_,?_⟩
  ·have:=congrArg (λq:aee=>q[0]?) F;simpa[aaI,aaW]using this
  have h0:IntKind.i64.min= -9223372036854775808/\IntKind.i64.max=9223372036854775807:=⟨by decide,by decide⟩
  simp only[Lit.wf,Ψ,aaC,h0]at g0;unfold lu;omega
 refine⟨l,?_,hl,λz F=>?_⟩
 ·apply abt;intro i;by_cases hi:i < n
  ·have F:l[i]?=some l[i]:=Φ (by omega);rw[(hq i _ F).1,aaA,F];rfl
  rw[abb (by omega),abb (by rw[aaB];omega)]
 obtain⟨i,hi⟩:=abU.1 F;exact(hq i z hi).2
end
end
section
open Go Go.D Go.ChangeShapes
theorem QH:Tryz.prog.underlying 4=some .bool:=by kernel_rfl
section
variable {H:Type} {enc:TypeId×aed->H} {W:World} {sp:Nat->Bool} {held:Bool} {base:Nat}
end
theorem CE{X:aG}(hX:cQ Tryz.prog X){W:World}(hW:2 < W.heap.size){f:Nat}{args:aee}{args':Array aed}{m':M}{b:Bool}(h:C X (.func f) args (fy W) (fy W).n (.bool b) m')(hl:bC (uZ W) args args'.toList):
  Calls Tryz.prog f args' W λe W'=>e=.returned (.bool b)/\Go.RowKit.Below W.heap.size W W':=by
 obtain⟨hn,_,n0,hc⟩:=h;have h1:=hc n0 (Ξ _) (fy W).n (Ξ _)
 have a0:dY Tryz.prog (uZ W) ((fy W).wl (fy W).n) W:=by have:=Bc hW;exact⟨this.nG,this.obj,this.lt,this.inj,this.jE⟩
 refine(rV ag.ok hX h1 a0 hl).mono λe w' he=>?_;obtain⟨v',d0,rfl,hv,F⟩:=he;have b0:=hv.aU rfl;subst b0;refine⟨rfl,F.os,F.tape,F.output,F.hle,λB hB=>F.heap B hB λb i hb hi=>?_⟩;have:=(km hb).1;show b < min (fy W).n (fy W).n;rw[sw];omega
end
end Go.Proofs.YtmdfgncoekfgdaaGreatDoor
