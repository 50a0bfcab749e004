/- What the words of the formulas come to at the program's types, and its functions in the tables (made by mkty.py; proved by the kernel). -/
import Derived.Test.YtmdfgncoekfgdaaGreatDoorTabJ
import Derived.Test.YtmdfgncoekfgdaaGreatDoorG2J
import Derived.OpenShut
import Derived.ChangeArms
import Derived.Below
namespace Go.Proofs.YtmdfgncoekfgdaaGreatDoor
open Go Go.D
theorem bA{l:List Value}(h:l.length=1):∃y0,l=[y0]:=by
 match l,h with
 |[y0],_=>exact⟨y0,rfl⟩
theorem qI{x0 x1 x2:Value}(h0:(cells x0).length=1)(h1:(cells x1).length=1)(h2:(cells x2).length=1):aO TE 234 [(0,x0),(1,x1),(2,x2)]=some (.agg (cells x0++(cells x1++(cells x2))).toArray):=by
 obtain⟨y0_0,e0⟩:=bA h0
 obtain⟨y1_0,e1⟩:=bA h1
 obtain⟨y2_0,e2⟩:=bA h2
 simp only[aO,show TE.ty.get 234=some af.t234 by kernel_rfl,af.t234,fill,aP,List.getElem?_cons_zero,List.getElem?_cons_succ,List.length_cons,List.length_nil,Option.map_some,e0,e1,e2]
 rfl
theorem qH{x0 x1 x2:Value}(h0:(cells x0).length=1)(h1:(cells x1).length=1)(h2:(cells x2).length=1):aO TE 236 [(0,x0),(1,x1),(2,x2)]=some (.agg (cells x0++(cells x1++(cells x2))).toArray):=by
 obtain⟨y0_0,e0⟩:=bA h0
 obtain⟨y1_0,e1⟩:=bA h1
 obtain⟨y2_0,e2⟩:=bA h2
 simp only[aO,show TE.ty.get 236=some af.t236 by kernel_rfl,af.t236,fill,aP,List.getElem?_cons_zero,List.getElem?_cons_succ,List.length_cons,List.length_nil,Option.map_some,e0,e1,e2]
 rfl
theorem fN:aO TE 27 []=some (.agg (([(.int .i64 0)]:List Value)++(([(.int .i64 0)]:List Value)++(([(.slice none 0 0)]:List Value)))).toArray):=by kernel_rfl
theorem eC{x0 x1:Value}(h0:(cells x0).length=1)(h1:(cells x1).length=1):aO TE 27 [(0,x0),(1,x1)]=some (.agg (cells x0++(cells x1++(([(.slice none 0 0)]:List Value)))).toArray):=by
 obtain⟨y0_0,e0⟩:=bA h0
 obtain⟨y1_0,e1⟩:=bA h1
 simp only[aO,show TE.ty.get 27=some af.t27 by kernel_rfl,af.t27,fill,aP,List.getElem?_cons_zero,List.getElem?_cons_succ,List.length_cons,List.length_nil,Option.map_some,e0,e1]
 rfl
theorem lY{x0 x1 x2:Value}(h0:(cells x0).length=1)(h1:(cells x1).length=1)(h2:(cells x2).length=1):aO TE 27 [(0,x0),(1,x1),(2,x2)]=some (.agg (cells x0++(cells x1++(cells x2))).toArray):=by
 obtain⟨y0_0,e0⟩:=bA h0
 obtain⟨y1_0,e1⟩:=bA h1
 obtain⟨y2_0,e2⟩:=bA h2
 simp only[aO,show TE.ty.get 27=some af.t27 by kernel_rfl,af.t27,fill,aP,List.getElem?_cons_zero,List.getElem?_cons_succ,List.length_cons,List.length_nil,Option.map_some,e0,e1,e2]
 rfl
theorem Eu:aO TE 31 []=some (.agg (([(.slice none 0 0)]:List Value)).toArray):=by kernel_rfl
theorem AX{x0:Value}(h0:(cells x0).length=1):aO TE 31 [(0,x0)]=some (.agg (cells x0).toArray):=by
 obtain⟨y0_0,e0⟩:=bA h0
 simp only[aO,show TE.ty.get 31=some af.t31 by kernel_rfl,af.t31,fill,aP,List.getElem?_cons_zero,List.getElem?_cons_succ,List.length_cons,List.length_nil,Option.map_some,e0]
 rfl
theorem AW{x0:Value}(h0:(cells x0).length=1):aO TE 87 [(0,x0)]=some (.agg (cells x0++(([(.int .i64 0)]:List Value)++(([(.int .i64 0)]:List Value)++(([(.slice none 0 0)]:List Value)++(([(.int .i64 0)]:List Value)++(([(.int .i64 0)]:List Value))))))).toArray):=by
 obtain⟨y0_0,e0⟩:=bA h0
 simp only[aO,show TE.ty.get 87=some af.t87 by kernel_rfl,af.t87,fill,aP,List.getElem?_cons_zero,List.getElem?_cons_succ,List.length_cons,List.length_nil,Option.map_some,e0]
 rfl
theorem lX{x0 x1 x2 x3 x4 x5:Value}(h0:(cells x0).length=1)(h1:(cells x1).length=1)(h2:(cells x2).length=1)(h3:(cells x3).length=1)(h4:(cells x4).length=1)(h5:(cells x5).length=1):aO TE 87 [(0,x0),(1,x1),(2,x2),(3,x3),(4,x4),(5,x5)]=some (.agg (cells x0++(cells x1++(cells x2++(cells x3++(cells x4++(cells x5)))))).toArray):=by
 obtain⟨y0_0,e0⟩:=bA h0
 obtain⟨y1_0,e1⟩:=bA h1
 obtain⟨y2_0,e2⟩:=bA h2
 obtain⟨y3_0,e3⟩:=bA h3
 obtain⟨y4_0,e4⟩:=bA h4
 obtain⟨y5_0,e5⟩:=bA h5
 simp only[aO,show TE.ty.get 87=some af.t87 by kernel_rfl,af.t87,fill,aP,List.getElem?_cons_zero,List.getElem?_cons_succ,List.length_cons,List.length_nil,Option.map_some,e0,e1,e2,e3,e4,e5]
 rfl
theorem cd{x0 x1:Value}(h0:(cells x0).length=1)(h1:(cells x1).length=1):aO TE 98 [(0,x0),(1,x1)]=some (.agg (cells x0++(cells x1)).toArray):=by
 obtain⟨y0_0,e0⟩:=bA h0
 obtain⟨y1_0,e1⟩:=bA h1
 simp only[aO,show TE.ty.get 98=some af.t98 by kernel_rfl,af.t98,fill,aP,List.getElem?_cons_zero,List.getElem?_cons_succ,List.length_cons,List.length_nil,Option.map_some,e0,e1]
 rfl
theorem oV{m:M}{k:IntKind}{n:Int}:tb TE m 3 5 (.int k n)=some (.int .u8 (IntKind.wrap .u8 n)):=by kernel_rfl
theorem oU{m:M}{k:IntKind}{n:Int}:tb TE m 5 3 (.int k n)=some (.int .i64 (IntKind.wrap .i64 n)):=by kernel_rfl
theorem fC{b o:Nat}:ae TE 142 (.pointer (some ⟨b,o,none⟩)) 1=some (.pointer (some ⟨b,o+1,none⟩)):=by rw[show ae TE 142 (.pointer (some ⟨b,o,none⟩)) 1=some (.pointer (some (Addr.add ⟨b,o,none⟩ 1))) by kernel_rfl,bC rfl]
theorem qF{b o:Nat}:ae TE 234 (.pointer (some ⟨b,o,none⟩)) 0=some (.pointer (some ⟨b,o+0,none⟩)):=by rw[show ae TE 234 (.pointer (some ⟨b,o,none⟩)) 0=some (.pointer (some (Addr.add ⟨b,o,none⟩ 0))) by kernel_rfl,bC rfl]
theorem qE{b o:Nat}:ae TE 234 (.pointer (some ⟨b,o,none⟩)) 1=some (.pointer (some ⟨b,o+1,none⟩)):=by rw[show ae TE 234 (.pointer (some ⟨b,o,none⟩)) 1=some (.pointer (some (Addr.add ⟨b,o,none⟩ 1))) by kernel_rfl,bC rfl]
theorem qD{b o:Nat}:ae TE 234 (.pointer (some ⟨b,o,none⟩)) 2=some (.pointer (some ⟨b,o+2,none⟩)):=by rw[show ae TE 234 (.pointer (some ⟨b,o,none⟩)) 2=some (.pointer (some (Addr.add ⟨b,o,none⟩ 2))) by kernel_rfl,bC rfl]
theorem iC{b o:Nat}:ae TE 236 (.pointer (some ⟨b,o,none⟩)) 0=some (.pointer (some ⟨b,o+0,none⟩)):=by rw[show ae TE 236 (.pointer (some ⟨b,o,none⟩)) 0=some (.pointer (some (Addr.add ⟨b,o,none⟩ 0))) by kernel_rfl,bC rfl]
theorem iB{b o:Nat}:ae TE 236 (.pointer (some ⟨b,o,none⟩)) 1=some (.pointer (some ⟨b,o+1,none⟩)):=by rw[show ae TE 236 (.pointer (some ⟨b,o,none⟩)) 1=some (.pointer (some (Addr.add ⟨b,o,none⟩ 1))) by kernel_rfl,bC rfl]
theorem iA{b o:Nat}:ae TE 236 (.pointer (some ⟨b,o,none⟩)) 2=some (.pointer (some ⟨b,o+2,none⟩)):=by rw[show ae TE 236 (.pointer (some ⟨b,o,none⟩)) 2=some (.pointer (some (Addr.add ⟨b,o,none⟩ 2))) by kernel_rfl,bC rfl]
theorem bj{b o:Nat}:ae TE 27 (.pointer (some ⟨b,o,none⟩)) 0=some (.pointer (some ⟨b,o+0,none⟩)):=by rw[show ae TE 27 (.pointer (some ⟨b,o,none⟩)) 0=some (.pointer (some (Addr.add ⟨b,o,none⟩ 0))) by kernel_rfl,bC rfl]
theorem bB{b o:Nat}:ae TE 27 (.pointer (some ⟨b,o,none⟩)) 1=some (.pointer (some ⟨b,o+1,none⟩)):=by rw[show ae TE 27 (.pointer (some ⟨b,o,none⟩)) 1=some (.pointer (some (Addr.add ⟨b,o,none⟩ 1))) by kernel_rfl,bC rfl]
theorem bh{b o:Nat}:ae TE 27 (.pointer (some ⟨b,o,none⟩)) 2=some (.pointer (some ⟨b,o+2,none⟩)):=by rw[show ae TE 27 (.pointer (some ⟨b,o,none⟩)) 2=some (.pointer (some (Addr.add ⟨b,o,none⟩ 2))) by kernel_rfl,bC rfl]
theorem cx{b o:Nat}:ae TE 31 (.pointer (some ⟨b,o,none⟩)) 0=some (.pointer (some ⟨b,o+0,none⟩)):=by rw[show ae TE 31 (.pointer (some ⟨b,o,none⟩)) 0=some (.pointer (some (Addr.add ⟨b,o,none⟩ 0))) by kernel_rfl,bC rfl]
theorem ct{b o:Nat}:ae TE 87 (.pointer (some ⟨b,o,none⟩)) 0=some (.pointer (some ⟨b,o+0,none⟩)):=by rw[show ae TE 87 (.pointer (some ⟨b,o,none⟩)) 0=some (.pointer (some (Addr.add ⟨b,o,none⟩ 0))) by kernel_rfl,bC rfl]
theorem jy{b o:Nat}:ae TE 87 (.pointer (some ⟨b,o,none⟩)) 1=some (.pointer (some ⟨b,o+1,none⟩)):=by rw[show ae TE 87 (.pointer (some ⟨b,o,none⟩)) 1=some (.pointer (some (Addr.add ⟨b,o,none⟩ 1))) by kernel_rfl,bC rfl]
theorem jx{b o:Nat}:ae TE 87 (.pointer (some ⟨b,o,none⟩)) 2=some (.pointer (some ⟨b,o+2,none⟩)):=by rw[show ae TE 87 (.pointer (some ⟨b,o,none⟩)) 2=some (.pointer (some (Addr.add ⟨b,o,none⟩ 2))) by kernel_rfl,bC rfl]
theorem cg{b o:Nat}:ae TE 87 (.pointer (some ⟨b,o,none⟩)) 3=some (.pointer (some ⟨b,o+3,none⟩)):=by rw[show ae TE 87 (.pointer (some ⟨b,o,none⟩)) 3=some (.pointer (some (Addr.add ⟨b,o,none⟩ 3))) by kernel_rfl,bC rfl]
theorem cI{b o:Nat}:ae TE 87 (.pointer (some ⟨b,o,none⟩)) 4=some (.pointer (some ⟨b,o+4,none⟩)):=by rw[show ae TE 87 (.pointer (some ⟨b,o,none⟩)) 4=some (.pointer (some (Addr.add ⟨b,o,none⟩ 4))) by kernel_rfl,bC rfl]
theorem cH{b o:Nat}:ae TE 87 (.pointer (some ⟨b,o,none⟩)) 5=some (.pointer (some ⟨b,o+5,none⟩)):=by rw[show ae TE 87 (.pointer (some ⟨b,o,none⟩)) 5=some (.pointer (some (Addr.add ⟨b,o,none⟩ 5))) by kernel_rfl,bC rfl]
theorem bK{b o:Nat}:ae TE 98 (.pointer (some ⟨b,o,none⟩)) 0=some (.pointer (some ⟨b,o+0,none⟩)):=by rw[show ae TE 98 (.pointer (some ⟨b,o,none⟩)) 0=some (.pointer (some (Addr.add ⟨b,o,none⟩ 0))) by kernel_rfl,bC rfl]
theorem cr{b o:Nat}:ae TE 98 (.pointer (some ⟨b,o,none⟩)) 1=some (.pointer (some ⟨b,o+1,none⟩)):=by rw[show ae TE 98 (.pointer (some ⟨b,o,none⟩)) 1=some (.pointer (some (Addr.add ⟨b,o,none⟩ 1))) by kernel_rfl,bC rfl]
theorem sk{m:M}{a:Option Addr}{n c:Nat}:an TE m .len [25] [.slice a n c]=some (.int .i64 n,m):=by kernel_rfl
theorem LH{m:M}{a:Option Addr}{n c:Nat}:an TE m .len [29] [.slice a n c]=some (.int .i64 n,m):=by kernel_rfl
theorem LG{m:M}{a:Option Addr}{n c:Nat}:an TE m .len [34] [.slice a n c]=some (.int .i64 n,m):=by kernel_rfl
theorem LF{m:M}{a:Option Addr}{n c:Nat}:an TE m .len [44] [.slice a n c]=some (.int .i64 n,m):=by kernel_rfl
theorem LD{m:M}{a:Option Addr}{n c:Nat}:an TE m .len [45] [.slice a n c]=some (.int .i64 n,m):=by kernel_rfl
theorem sd{m:M}{a:Addr}:ag TE m 133 (.pointer (some a))=D.cellAt m a:=by kernel_rfl
theorem GD{m:M}{a:Addr}:ag TE m 236 (.pointer (some a))=(D.loadCells m a 3).map (fun cs=> .agg cs.toArray):=by kernel_rfl
theorem ez{m:M}{a:Addr}:ag TE m 25 (.pointer (some a))=D.cellAt m a:=by kernel_rfl
theorem bO{m:M}{a:Addr}:ag TE m 27 (.pointer (some a))=(D.loadCells m a 3).map (fun cs=> .agg cs.toArray):=by kernel_rfl
theorem gX{m:M}{a:Addr}:ag TE m 29 (.pointer (some a))=D.cellAt m a:=by kernel_rfl
theorem bu{m:M}{a:Addr}:ag TE m 3 (.pointer (some a))=D.cellAt m a:=by kernel_rfl
theorem cZ{m:M}{a:Addr}:ag TE m 31 (.pointer (some a))=(D.loadCells m a 1).map (fun cs=> .agg cs.toArray):=by kernel_rfl
theorem vH{m:M}{a:Addr}:ag TE m 4 (.pointer (some a))=D.cellAt m a:=by kernel_rfl
theorem vF{m:M}{a:Addr}:ag TE m 42 (.pointer (some a))=D.cellAt m a:=by kernel_rfl
theorem kO{m:M}{a:Addr}:ag TE m 45 (.pointer (some a))=D.cellAt m a:=by kernel_rfl
theorem BP{m:M}{a:Addr}:ag TE m 52 (.pointer (some a))=D.cellAt m a:=by kernel_rfl
theorem BO{m:M}{a:Addr}:ag TE m 87 (.pointer (some a))=(D.loadCells m a 6).map (fun cs=> .agg cs.toArray):=by kernel_rfl
theorem GC{m:M}{a:Addr}:ag TE m 9 (.pointer (some a))=D.cellAt m a:=by kernel_rfl
theorem vE{m:M}{a:Addr}:ag TE m 98 (.pointer (some a))=(D.loadCells m a 2).map (fun cs=> .agg cs.toArray):=by kernel_rfl
theorem zH:TE.ty.get 133=some af.t133:=by kernel_rfl
theorem NS:TE.ty.get 22=some af.t22:=by kernel_rfl
theorem rk:TE.ty.get 236=some af.t236:=by kernel_rfl
theorem oe:TE.ty.get 25=some af.t25:=by kernel_rfl
theorem dw:TE.ty.get 27=some af.t27:=by kernel_rfl
theorem FK:TE.ty.get 29=some af.t29:=by kernel_rfl
theorem kf:TE.ty.get 3=some af.t3:=by kernel_rfl
theorem kZ:TE.ty.get 31=some af.t31:=by kernel_rfl
theorem Li:TE.ty.get 4=some af.t4:=by kernel_rfl
theorem Kj:TE.ty.get 42=some af.t42:=by kernel_rfl
theorem od:TE.ty.get 45=some af.t45:=by kernel_rfl
theorem Ki:TE.ty.get 52=some af.t52:=by kernel_rfl
theorem jl:TE.ty.get 87=some af.t87:=by kernel_rfl
theorem NR:TE.ty.get 9=some af.t9:=by kernel_rfl
theorem gZ:TE.ty.get 98=some af.t98:=by kernel_rfl
theorem QK:TE.fn.get 3=some Tryz.f3:=by kernel_rfl
theorem QJ:TE.fn.get 9=some Tryz.f9:=by kernel_rfl
theorem O2:TE.fn.get 10=some Tryz.f10:=by kernel_rfl
theorem KD:TE.fn.get 11=some Tryz.f11:=by kernel_rfl
theorem O1:TE.fn.get 12=some Tryz.f12:=by kernel_rfl
theorem O0:TE.fn.get 13=some Tryz.f13:=by kernel_rfl
theorem OZ:TE.fn.get 14=some Tryz.f14:=by kernel_rfl
theorem KC:TE.fn.get 15=some Tryz.f15:=by kernel_rfl
theorem OY:TE.fn.get 16=some Tryz.f16:=by kernel_rfl
theorem KB:TE.fn.get 17=some Tryz.f17:=by kernel_rfl
theorem OX:TE.fn.get 18=some Tryz.f18:=by kernel_rfl
theorem OW:TE.fn.get 19=some Tryz.f19:=by kernel_rfl
theorem OV:TE.fn.get 20=some Tryz.f20:=by kernel_rfl
theorem KA:TE.fn.get 21=some Tryz.f21:=by kernel_rfl
theorem Kz:TE.fn.get 22=some Tryz.f22:=by kernel_rfl
theorem Kx:TE.fn.get 23=some Tryz.f23:=by kernel_rfl
theorem Kw:TE.fn.get 24=some Tryz.f24:=by kernel_rfl
theorem OU:TE.fn.get 25=some Tryz.f25:=by kernel_rfl
theorem OT:TE.fn.get 26=some Tryz.f26:=by kernel_rfl
theorem OS:TE.fn.get 27=some Tryz.f27:=by kernel_rfl
theorem OR:TE.fn.get 28=some Tryz.f28:=by kernel_rfl
theorem OQ:TE.fn.get 29=some Tryz.f29:=by kernel_rfl
theorem OP:TE.fn.get 52=some Tryz.f52:=by kernel_rfl
theorem OO:TE.fn.get 53=some Tryz.f53:=by kernel_rfl
theorem ON:TE.fn.get 54=some Tryz.f54:=by kernel_rfl
theorem OM:TE.fn.get 55=some Tryz.f55:=by kernel_rfl
theorem OL:TE.fn.get 56=some Tryz.f56:=by kernel_rfl
theorem OJ:TE.fn.get 57=some Tryz.f57:=by kernel_rfl
theorem OI:TE.fn.get 58=some Tryz.f58:=by kernel_rfl
theorem OH:TE.fn.get 59=some Tryz.f59:=by kernel_rfl
theorem OG:TE.fn.get 60=some Tryz.f60:=by kernel_rfl
theorem OF:TE.fn.get 61=some Tryz.f61:=by kernel_rfl
theorem OE:TE.fn.get 62=some Tryz.f62:=by kernel_rfl
theorem OD:TE.fn.get 63=some Tryz.f63:=by kernel_rfl
theorem OC:TE.fn.get 64=some Tryz.f64:=by kernel_rfl
theorem OB:TE.fn.get 65=some Tryz.f65:=by kernel_rfl
theorem OA:TE.fn.get 66=some Tryz.f66:=by kernel_rfl
theorem Oz:TE.fn.get 67=some Tryz.f67:=by kernel_rfl
theorem Oy:TE.fn.get 68=some Tryz.f68:=by kernel_rfl
theorem Ox:TE.fn.get 69=some Tryz.f69:=by kernel_rfl
theorem Ov:TE.fn.get 70=some Tryz.f70:=by kernel_rfl
theorem Ou:TE.fn.get 71=some Tryz.f71:=by kernel_rfl
theorem Ot:TE.fn.get 72=some Tryz.f72:=by kernel_rfl
theorem Oq:TE.fn.get 73=some Tryz.f73:=by kernel_rfl
theorem Oo:TE.fn.get 74=some Tryz.f74:=by kernel_rfl
theorem On:TE.fn.get 75=some Tryz.f75:=by kernel_rfl
theorem Om:TE.fn.get 76=some Tryz.f76:=by kernel_rfl
theorem Ol:TE.fn.get 78=some Tryz.f78:=by kernel_rfl
theorem Ok:TE.fn.get 80=some Tryz.f80:=by kernel_rfl
theorem Oj:TE.fn.get 81=some Tryz.f81:=by kernel_rfl
theorem Oi:TE.fn.get 82=some Tryz.f82:=by kernel_rfl
theorem Oh:TE.fn.get 83=some Tryz.f83:=by kernel_rfl
theorem Og:TE.fn.get 84=some Tryz.f84:=by kernel_rfl
theorem Of:TE.fn.get 85=some Tryz.f85:=by kernel_rfl
theorem MI:TE.fn.get 102=some Tryz.f102:=by kernel_rfl
theorem MH:TE.fn.get 108=some Tryz.f108:=by kernel_rfl
theorem MG:TE.fn.get 111=some Tryz.f111:=by kernel_rfl
theorem MF:TE.fn.get 119=some Tryz.f119:=by kernel_rfl
theorem ME:TE.fn.get 120=some Tryz.f120:=by kernel_rfl
theorem MD:TE.fn.get 125=some Tryz.f125:=by kernel_rfl
theorem MC:TE.fn.get 126=some Tryz.f126:=by kernel_rfl
theorem MB:TE.fn.get 127=some Tryz.f127:=by kernel_rfl
theorem MA:TE.fn.get 128=some Tryz.f128:=by kernel_rfl
theorem Mz:TE.fn.get 129=some Tryz.f129:=by kernel_rfl
theorem My:TE.fn.get 130=some Tryz.f130:=by kernel_rfl
theorem Mx:TE.fn.get 131=some Tryz.f131:=by kernel_rfl
theorem Mw:TE.fn.get 132=some Tryz.f132:=by kernel_rfl
theorem Mv:TE.fn.get 133=some Tryz.f133:=by kernel_rfl
theorem Mu:TE.fn.get 134=some Tryz.f134:=by kernel_rfl
theorem Mt:TE.fn.get 135=some Tryz.f135:=by kernel_rfl
theorem Ms:TE.fn.get 136=some Tryz.f136:=by kernel_rfl
theorem Mr:TE.fn.get 137=some Tryz.f137:=by kernel_rfl
theorem Mq:TE.fn.get 138=some Tryz.f138:=by kernel_rfl
theorem Mp:TE.fn.get 139=some Tryz.f139:=by kernel_rfl
theorem Mo:TE.fn.get 140=some Tryz.f140:=by kernel_rfl
theorem Mn:TE.fn.get 143=some Tryz.f143:=by kernel_rfl
theorem Mm:TE.fn.get 155=some Tryz.f155:=by kernel_rfl
theorem Ml:TE.fn.get 157=some Tryz.f157:=by kernel_rfl
theorem Mk:TE.fn.get 158=some Tryz.f158:=by kernel_rfl
theorem Mj:TE.fn.get 159=some Tryz.f159:=by kernel_rfl
theorem Mi:TE.fn.get 160=some Tryz.f160:=by kernel_rfl
theorem Mh:TE.fn.get 166=some Tryz.f166:=by kernel_rfl
theorem Mg:TE.fn.get 167=some Tryz.f167:=by kernel_rfl
theorem Mf:TE.fn.get 179=some Tryz.f179:=by kernel_rfl
theorem Me:TE.fn.get 180=some Tryz.f180:=by kernel_rfl
theorem Md:TE.fn.get 186=some Tryz.f186:=by kernel_rfl
theorem Mc:TE.fn.get 187=some Tryz.f187:=by kernel_rfl
theorem Mb:TE.fn.get 188=some Tryz.f188:=by kernel_rfl
theorem Ma:TE.fn.get 189=some Tryz.f189:=by kernel_rfl
theorem L8:TE.fn.get 190=some Tryz.f190:=by kernel_rfl
theorem L7:TE.fn.get 191=some Tryz.f191:=by kernel_rfl
theorem L6:TE.fn.get 192=some Tryz.f192:=by kernel_rfl
theorem LZ:TE.fn.get 211=some Tryz.f211:=by kernel_rfl
theorem LY:TE.fn.get 212=some Tryz.f212:=by kernel_rfl
theorem LX:TE.fn.get 213=some Tryz.f213:=by kernel_rfl
theorem LW:TE.fn.get 214=some Tryz.f214:=by kernel_rfl
theorem LV:TE.fn.get 289=some Tryz.f289:=by kernel_rfl
theorem LU:TE.fn.get 301=some Tryz.f301:=by kernel_rfl
theorem LS:TE.fn.get 302=some Tryz.f302:=by kernel_rfl
end Go.Proofs.YtmdfgncoekfgdaaGreatDoor
namespace Go.Proofs.YtmdfgncoekfgdaaGreatDoor
open Go Go.D
set_option maxRecDepth 100000 in
theorem QW{W:Words}{x0 x1:Value}{m:M}{R:List Value->M->Nat->Prop}:dt TE W Tryz.f211 [x0,x1] m R=
(W.bz (.func 301) [x0,x1] m fun a b c=>W.ah (aq TE .geq 3 a (.int .i64 0)) fun d=>R [d] b (min m.n c)):=by kernel_rfl
set_option maxRecDepth 100000 in
theorem QV{W:Words}{x0:Value}{m:M}{R:List Value->M->Nat->Prop}:dt TE W Tryz.f212 [x0] m R=
(W.bW (M.push m (.cells (cells x0) 98 none)) fun a=>W.jn (fun b=>W.ah (ae TE 98 (ptrTo m.n) 0) fun c=>W.ah (ag TE a 3 c) fun d=>W.ah (ae TE 98 (ptrTo m.n) 1) fun f=>W.ah (ag TE a 3 f) fun g=>W.aK (an TE a .min [3,3] [d,g]) fun h _=>W.ah (aq TE .lss 3 h (.int .i64 0)) fun i=>aW i
(b [(.bool true)] a m.n)
(W.ah (ae TE 98 (ptrTo m.n) 0) fun j=>W.ah (ag TE a 3 j) fun k=>W.ah (ae TE 98 (ptrTo m.n) 1) fun l=>W.ah (ag TE a 3 l) fun n=>W.aK (an TE a .max [3,3] [k,n]) fun o _=>W.ah (aq TE .gtr 3 o (.int .i64 40)) fun p=>b [p] a m.n))
(fun q r s=>W.un q fun t u=>R [t] r s)):=by kernel_rfl
set_option maxRecDepth 100000 in
theorem Ra{W:Words}{x0 x1 x2:Value}{m:M}{R:List Value->M->Nat->Prop}:dt TE W Tryz.f159 [x0,x1,x2] m R=
(W.bW (M.push m (.cells (cells x0) 98 none)) fun a=>W.bW (M.push a (.cells (cells x1) 98 none)) fun b=>W.bW (M.push b (.cells (cells x2) 98 none)) fun c=>W.ah (ae TE 98 (ptrTo a.n) 0) fun d=>W.ah (ag TE c 3 d) fun f=>W.ah (ae TE 98 (ptrTo m.n) 0) fun g=>W.ah (ag TE c 3 g) fun h=>W.ah (aq TE .sub 3 f h) fun i=>W.ah (ae TE 98 (ptrTo b.n) 1) fun j=>W.ah (ag TE c 3 j) fun k=>W.ah (ae TE 98 (ptrTo m.n) 1) fun l=>W.ah (ag TE c 3 l) fun n=>W.ah (aq TE .sub 3 k n) fun o=>W.ah (aq TE .mul 3 i o) fun p=>W.ah (ae TE 98 (ptrTo a.n) 1) fun q=>W.ah (ag TE c 3 q) fun r=>W.ah (ae TE 98 (ptrTo m.n) 1) fun s=>W.ah (ag TE c 3 s) fun t=>W.ah (aq TE .sub 3 r t) fun u=>W.ah (ae TE 98 (ptrTo b.n) 0) fun v=>W.ah (ag TE c 3 v) fun w=>W.ah (ae TE 98 (ptrTo m.n) 0) fun y=>W.ah (ag TE c 3 y) fun z=>W.ah (aq TE .sub 3 w z) fun A=>W.ah (aq TE .mul 3 u A) fun B=>W.ah (aq TE .sub 3 p B) fun C=>R [C] c m.n):=by kernel_rfl
set_option maxRecDepth 100000 in
theorem Rc{W:Words}{x0:Value}{m:M}{R:List Value->M->Nat->Prop}:dt TE W Tryz.f157 [x0] m R=
(W.jn (fun a=>W.aK (an TE m .len [45] [x0]) fun b _=>W.ah (aq TE .lss 3 b (.int .i64 3)) fun c=>aW c
(a [(.bool true)] m m.n)
(W.aK (an TE m .len [45] [x0]) fun d _=>W.ah (aq TE .gtr 3 d (.int .i64 8)) fun f=>aW f
(a [(.bool true)] m m.n)
(W.bz (.func 211) [x0,(.func (.func 212) #[] #[])] m fun g h i=>a [g] h (min m.n i))))
(fun j k l=>W.un j fun n o=>aW n
(R [(.bool false)] k l)
(W.aK (an TE k .len [45] [x0]) fun p _=>W.Lp (fun q r s t=>W.un r fun u v=>W.un v fun w y=>W.ah (aq TE .lss 3 w p) fun z=>aW z
(W.ah (ai TE 45 x0 w) fun A=>W.ah (ag TE s 98 A) fun B=>W.bW (M.push s (.cells [(.int .i64 0),(.int .i64 0)] 98 none)) fun C=>W.aK (aw TE C 98 (ptrTo s.n) B) fun D E=>W.ah (aq TE .add 3 w (.int .i64 1)) fun F=>W.aK (an TE D .len [45] [x0]) fun G _=>W.ah (aq TE .rem 3 F G) fun H=>W.aK (an TE D .len [45] [x0]) fun I _=>W.Lp (fun J K L N=>W.un K fun O P=>W.un P fun Q S=>W.ah (aq TE .lss 3 Q I) fun T=>aW T
(W.ah (ai TE 45 x0 Q) fun U=>W.ah (ag TE L 98 U) fun V=>W.bW (M.push L (.cells [(.int .i64 0),(.int .i64 0)] 98 none)) fun X=>W.aK (aw TE X 98 (ptrTo L.n) V) fun Y Z=>W.jn (fun a0=>W.ah (aq TE .neq 3 Q w) fun a1=>aW a1
(W.ah (aq TE .neq 3 Q H) fun a2=>aW a2
(W.ah (ag TE Y 98 (ptrTo s.n)) fun a3=>W.ah (ai TE 45 x0 H) fun a4=>W.ah (ag TE Y 98 a4) fun a5=>W.ah (ag TE Y 98 (ptrTo L.n)) fun a6=>W.bz (.func 159) [a3,a5,a6] Y fun a7 a8 a9=>W.ah (aq TE .leq 3 a7 (.int .i64 0)) fun b0=>a0 [b0] a8 (min (min N Z) a9))
(a0 [(.bool false)] Y (min N Z)))
(a0 [(.bool false)] Y (min N Z)))
(fun b1 b2 b3=>W.un b1 fun b4 b5=>aW b4
(R [(.bool false)] b2 b3)
(W.ah (aq TE .add 3 Q (.int .i64 1)) fun b6=>J [O,b6] b2 b3)))
(W.ah (aq TE .add 3 w (.int .i64 1)) fun b7=>q [O,b7] L N)) [u,(.int .i64 0)] D (min t E))
(R [(.bool true)] s t)) [(.bool false),(.int .i64 0)] k l))):=by kernel_rfl
set_option maxRecDepth 100000 in
theorem Rb{W:Words}{x0:Value}{m:M}{R:List Value->M->Nat->Prop}:dt TE W Tryz.f158 [x0] m R=
(W.bW (M.push m (.cells (cells x0) 45 none)) fun a=>R [(.func (.func 213) #[] #[(ptrTo m.n)])] a m.n):=by kernel_rfl
set_option maxRecDepth 100000 in
theorem QU{W:Words}{x0 x1:Value}{m:M}{R:List Value->M->Nat->Prop}:dt TE W Tryz.f213 [x0,x1] m R=
(W.ah (ag TE m 45 x1) fun a=>W.aK (an TE m .len [45] [a]) fun b _=>W.Lp (fun c d f g=>W.un d fun h i=>W.ah (aq TE .lss 3 h b) fun j=>aW j
(W.ah (ai TE 45 a h) fun k=>W.ah (ag TE f 98 k) fun l=>W.bW (M.push f (.cells [(.int .i64 0),(.int .i64 0)] 98 none)) fun n=>W.aK (aw TE n 98 (ptrTo f.n) l) fun o p=>W.ah (ag TE o 98 (ptrTo f.n)) fun q=>W.ah (ag TE o 45 x1) fun r=>W.ah (aq TE .add 3 h (.int .i64 1)) fun s=>W.ah (ag TE o 45 x1) fun t=>W.aK (an TE o .len [45] [t]) fun u _=>W.ah (aq TE .rem 3 s u) fun v=>W.ah (ai TE 45 r v) fun w=>W.ah (ag TE o 98 w) fun y=>oG x0 fun z A B=>W.bz z (A.toList++([q,y]++B.toList)) o fun C D E=>W.ah (fK .not C) fun F=>aW F
(R [] D (min (min g p) E))
(W.ah (aq TE .add 3 h (.int .i64 1)) fun G=>c [G] D (min (min g p) E)))
(R [] f g)) [(.int .i64 0)] m m.n):=by kernel_rfl
set_option maxRecDepth 100000 in
theorem Q4{W:Words}{x0 x1:Value}{m:M}{R:List Value->M->Nat->Prop}:dt TE W Tryz.f186 [x0,x1] m R=
(W.bz (.func 289) [x0] m fun a b c=>W.bz (.func 289) [x1] b fun d f g=>aW a
(aW d
(R [(.int .i64 0)] f (min (min m.n c) g))
(R [(.int .i64 (-1))] f (min (min m.n c) g)))
(aW d
(R [(.int .i64 1)] f (min (min m.n c) g))
(W.ah (aq TE .lss 3 x0 x1) fun h=>aW h
(R [(.int .i64 (-1))] f (min (min m.n c) g))
(W.ah (aq TE .gtr 3 x0 x1) fun i=>aW i
(R [(.int .i64 1)] f (min (min m.n c) g))
(R [(.int .i64 0)] f (min (min m.n c) g)))))):=by kernel_rfl
set_option maxRecDepth 100000 in
theorem QS{W:Words}{x0:Value}{m:M}{R:List Value->M->Nat->Prop}:dt TE W Tryz.f289 [x0] m R=
(W.ah (aq TE .neq 3 x0 x0) fun a=>R [a] m m.n):=by kernel_rfl
set_option maxRecDepth 100000 in
theorem Q6{W:Words}{x0 x1:Value}{m:M}{R:List Value->M->Nat->Prop}:dt TE W Tryz.f179 [x0,x1] m R=
(W.bW (M.push m (.cells (cells x1) 98 none)) fun a=>W.bW (M.push a (.cells [(.int .i64 0)] 3 none)) fun b=>W.aK (aw TE b 3 (ptrTo a.n) (.int .i64 4611686018427387903)) fun c d=>W.bz (.func 158) [x0] c fun f g h=>oG f fun i j k=>W.RF i j.toList k.toList g (min (min m.n d) h) (fun l n o=>W.un l fun p q=>W.un q fun r s=>W.zD s (W.bW (M.push n (.cells [(.int .i64 0),(.int .i64 0)] 98 none)) fun t=>W.aK (aw TE t 98 (ptrTo n.n) p) fun u v=>W.bW (M.push u (.cells [(.int .i64 0),(.int .i64 0)] 98 none)) fun w=>W.aK (aw TE w 98 (ptrTo u.n) r) fun y z=>W.Kq g.n n y fun A=>W.ah (ag TE A 3 (ptrTo a.n)) fun B=>W.ah (ag TE A 98 (ptrTo n.n)) fun C=>W.ah (ag TE A 98 (ptrTo u.n)) fun D=>W.ah (ag TE A 98 (ptrTo m.n)) fun E=>W.bz (.func 159) [C,D,E] A fun F G H=>(M.n A<=H)/\(W.aK (an TE G .min [3,3] [B,F]) fun I _=>W.aK (aw TE G 3 (ptrTo a.n) I) fun J K=>o A .normal J (min (min (min (min (min n.n v) z) g.n) H) K)))) (fun L N=>W.ah (ag TE L 3 (ptrTo a.n)) fun O=>W.bz (.func 186) [O,(.int .i64 0)] L fun P Q S=>R [P] Q (min N S)) []):=by kernel_rfl
set_option maxRecDepth 100000 in
theorem Ru{W:Words}{x0 x1 x2:Value}{m:M}{R:List Value->M->Nat->Prop}:dt TE W Tryz.f119 [x0,x1,x2] m R=
(W.jn (fun a=>W.bz (.func 157) [x0] m fun b c d=>W.ah (fK .not b) fun f=>aW f
(a [(.bool true)] c (min m.n d))
(W.aK (an TE c .min [3,3] [x1,x2]) fun g _=>W.ah (aq TE .lss 3 g (.int .i64 0)) fun h=>aW h
(a [(.bool true)] c (min m.n d))
(W.aK (an TE c .max [3,3] [x1,x2]) fun i _=>W.ah (aq TE .geq 3 i (.int .i64 40)) fun j=>a [j] c (min m.n d))))
(fun k l n=>W.un k fun o p=>aW o
(R [(.int .i64 (-1))] l n)
(W.bz (.func 155) [x0] l fun q r s=>W.aK (an TE r .len [45] [q]) fun t _=>W.Lp (fun u v w y=>W.un v fun z A=>W.ah (aq TE .lss 3 z t) fun B=>aW B
(W.ah (ai TE 45 q z) fun C=>W.ah (ae TE 98 C 0) fun D=>W.ah (ag TE w 3 D) fun E=>W.ah (aq TE .mul 3 E (.int .i64 2)) fun F=>W.ah (ai TE 45 q z) fun G=>W.ah (ae TE 98 G 0) fun H=>W.aK (aw TE w 3 H F) fun I J=>W.ah (ai TE 45 q z) fun K=>W.ah (ae TE 98 K 1) fun L=>W.ah (ag TE I 3 L) fun N=>W.ah (aq TE .mul 3 N (.int .i64 2)) fun O=>W.ah (ai TE 45 q z) fun P=>W.ah (ae TE 98 P 1) fun Q=>W.aK (aw TE I 3 Q O) fun S T=>W.ah (aq TE .add 3 z (.int .i64 1)) fun U=>u [U] S (min (min y J) T))
(W.ah (aq TE .mul 3 (.int .i64 2) x1) fun V=>W.ah (aq TE .add 3 V (.int .i64 1)) fun X=>W.ah (aq TE .mul 3 (.int .i64 2) x2) fun Y=>W.ah (aq TE .add 3 Y (.int .i64 1)) fun Z=>W.ah (aO TE 98 [(0,X),(1,Z)]) fun a0=>W.bz (.func 179) [q,a0] w fun a1 a2 a3=>R [a1] a2 (min y a3))) [(.int .i64 0)] r (min n s)))):=by kernel_rfl
set_option maxRecDepth 100000 in
theorem Rd{W:Words}{x0:Value}{m:M}{R:List Value->M->Nat->Prop}:dt TE W Tryz.f155 [x0] m R=
(W.ah (aq TE .eql 45 x0 (.slice none 0 0)) fun a=>aW a
(R [(.slice none 0 0)] m m.n)
(W.aK (az TE m 45 0 []) fun b c=>W.aK (an TE (M.wl c c.n) .append [45,45] [b,x0]) fun d f=>R [d] f (min m.n (M.low f)))):=by kernel_rfl
end Go.Proofs.YtmdfgncoekfgdaaGreatDoor
namespace Go.Proofs.YtmdfgncoekfgdaaGreatDoor
open Go Go.D
structure cW(X:aF):Prop where
 no:∀f,(Nat.beq f 8 ||Nat.beq f 79 ||Nat.beq f 144 ||Nat.beq f 141 ||Nat.beq f 77 ||Nat.beq f 103 ||Nat.beq f 367 ||Nat.beq f 183 ||Nat.beq f 362 ||Nat.beq f 280 ||Nat.beq f 365 ||Nat.beq f 117)=false->KI X f
abbrev C(X:aF):=Cl TE X
structure Pl where
 x:Int
 y:Int
deriving DecidableEq
def Pl.c(p:Pl):List Value:=[.int .i64 p.x,.int .i64 p.y]
abbrev Pl.v(p:Pl):Value:=.agg #[.int .i64 p.x,.int .i64 p.y]
instance:aL Pl where
 ty:=98
 sz:=2
 agg:=true
 fR:=[]
 rep _ p cs:=cs=p.c
 pos:=by decide
 one:=by intro h;cases h
 len:=by rintro _ _ _ rfl;rfl
 nB:=by rintro _ _ _ rfl;rfl
 bt:=by rintro _ _ _ _ rfl _;rfl
theorem cX:uF TE 45 98 Pl:=⟨af.t45,af.t98,by kernel_rfl,⟨_,rfl⟩,rfl,by kernel_rfl,rfl,rfl⟩
theorem kX:EC TE 45 Pl:=⟨af.t45,af.t98,by kernel_rfl,rfl,rfl,by kernel_rfl,by decide,rfl⟩
instance:aL Int where
 ty:=3
 sz:=1
 agg:=false
 fR:=[]
 rep _ n cs:=cs=[.int .i64 n]
 pos:=by decide
 one:=by intro _;rfl
 len:=by rintro _ _ _ rfl;rfl
 nB:=by rintro _ _ _ rfl;rfl
 bt:=by rintro _ _ _ _ rfl _;rfl
theorem eK:uF TE 25 3 Int:=⟨af.t25,af.t3,by kernel_rfl,⟨_,rfl⟩,rfl,by kernel_rfl,rfl,rfl⟩
theorem oZ:EC TE 25 Int:=⟨af.t25,af.t3,by kernel_rfl,rfl,rfl,by kernel_rfl,by decide,rfl⟩
def idx{α:Type}(p:α->Bool):List α->Int
 |[]=> -1
 |x::l=>if p x then 0 else match idx p l with |.ofNat n=>n+1 |.negSucc _=> -1
theorem km{α:Type}(p:α->Bool):∀l:List α,(idx p l= -1/\∀x∈l,p x=false)\/(∃i x,idx p l=(i:Nat)/\l[i]?=some x/\p x=true/\∀j y,j < i->l[j]?=some y->p y=false)
 |[]=> .inl ⟨rfl,fun _ h=>by cases h⟩
 |x::l=>by
  cases hp:p x with
  |true=>exact .inr ⟨0,x,by simp[idx,hp],rfl,hp,fun j y hj=>by omega⟩
  |false=>
   rcases km p l with⟨h1,h2⟩ |⟨i,y,h1,h2,h3,h4⟩
   ·refine .inl ⟨by simp only[idx,hp,h1];rfl,fun z hz=>?_⟩
    rcases List.mem_cons.1 hz with rfl |hz
    ·exact hp
    ·exact h2 z hz
   ·refine .inr ⟨i+1,y,by simp only[idx,hp,h1];rfl,by simpa using h2,h3,fun j z hj hz=>?_⟩
    cases j with
    |zero=>simp at hz;subst hz;exact hp
    |succ j=>exact h4 j z (by omega) (by simpa using hz)
theorem Jq{α:Type}{p:α->Bool}{l:List α}{i:Nat}{x:α}(hx:l[i]?=some x)(hp:p x=true)(h:∀j y,j < i->l[j]?=some y->p y=false):idx p l=i:=by
 rcases km p l with⟨h1,h2⟩ |⟨k,y,h1,h2,h3,h4⟩
 ·rw[h2 x (List.mem_of_getElem? hx)]at hp;cases hp
 ·have:i=k:=by
   rcases Nat.lt_trichotomy i k with hlt |he |hlt
   ·rw[h4 i x hlt hx]at hp;cases hp
   ·exact he
   ·rw[h k y hlt h2]at h3;cases h3
  rw[h1,this]
theorem GP{α:Type}{p:α->Bool}{l:List α}(h:∀x∈l,p x=false):idx p l= -1:=by
 rcases km p l with⟨h1,h2⟩ |⟨k,y,h1,h2,h3,h4⟩
 ·exact h1
 ·rw[h y (List.mem_of_getElem? h2)]at h3;cases h3
theorem sA{α:Type}{p:α->Bool}{l:List α}:decide (0<=idx p l)=l.any p:=by
 rcases km p l with⟨h1,h2⟩ |⟨k,y,h1,h2,h3,h4⟩
 ·rw[h1]
  have:l.any p=false:=by rw[List.any_eq_false];intro x hx;rw[h2 x hx];simp
  rw[this];rfl
 ·have:l.any p=true:=List.any_eq_true.2 ⟨y,List.mem_of_getElem? h2,h3⟩
  rw[this,h1];simp
abbrev Aw(T t:TypeId)(W:Words)(x0 x1:Value)(m:M)(R:List Value->M->Nat->Prop):Prop:=
(W.aK (an TE m .len [T] [x0]) fun v1 _=>(W.Lp (fun P2 vs3 m4 lo5=>W.un vs3 fun v6 r7=>W.un r7 fun v8 r9=>(W.ah (aq TE .lss 3 v8 v1) fun v10=>(aW v10
(W.ah (ai TE T x0 v8) fun v11=>(W.ah (ag TE m4 t v11) fun v12=>(oG x1 fun g13 f14 c15=>(W.bz g13 (f14.toList++([v12]++c15.toList)) m4 fun v16 m17 b18=>(aW v16
(R [v8] m17 (min lo5 b18))
(W.ah (aq TE .add 3 v8 (.int .i64 1)) fun v19=>(P2 [v6,v19] m17 (min lo5 b18))))))))
(R [(.int .i64 (-1))] m4 lo5)))) [(.int .i64 0),(.int .i64 0)] m (M.n m)))
theorem Jr{W:Words}{x0 x1:Value}{m:M}{R:List Value->M->Nat->Prop}:dt TE W Tryz.f301 [x0,x1] m R=Aw 45 98 W x0 x1 m R:=by kernel_rfl
theorem GQ{W:Words}{x0 x1:Value}{m:M}{R:List Value->M->Nat->Prop}:dt TE W Tryz.f143 [x0,x1] m R=Aw 25 3 W x0 x1 m R:=by kernel_rfl
theorem Dz{W:Words}{x0 x1:Value}{m:M}{R:List Value->M->Nat->Prop}:dt TE W Tryz.f138 [x0,x1] m R=Aw 29 87 W x0 x1 m R:=by kernel_rfl
theorem vN{X:aF}{T t:TypeId}{α:Type}[aL α](hT:uF TE T t α){m:M}{l:List α}{v:Value}{g:Fn}{fi ca:Array Value}{R:List Value->M->Nat->Prop}(J:Nat->M->Nat->Prop)(Hit:Nat->M->Nat->Prop)(p:Nat->Bool)(hb:l.length < 4611686018427387904)
  (hl:∀i m lo,J i m lo->iV m l v)
  (hs:∀i x m1 lo1,l[i]?=some x->J i m1 lo1->∀cs,aL.rep m1 x cs->∃b m2,C X g (fi.toList++([aL.val α cs]++ca.toList)) m1 b (.bool (p i)) m2/\(p i=true->Hit i m2 (min lo1 b))/\(p i=false->J (i+1) m2 (min lo1 b)))
  (h0:J 0 m m.n) (hR1:∀i m2 lo2,i < l.length->p i=true->Hit i m2 lo2->R [.int .i64 i] m2 lo2) (hR2:∀m2 lo2,J l.length m2 lo2->R [.int .i64 (-1)] m2 lo2):
  Aw T t (aI TE X) v (.func g fi ca) m R:=by
 dsimp only[Aw,aI]
 rw[(hl 0 m m.n h0).len hT,ar]
 refine Lp.intro (γ:=Nat) (fun i=>l.length-i) (fun i vs m lo=>∃w,vs=[w,.int .i64 i]/\i<=l.length/\J i m lo) 0 ⟨_,rfl,Nat.zero_le _,h0⟩ ?_
 rintro i vs m1 lo1 ⟨w,rfl,hi,hJ⟩
 simp only[aA,aH,aa,aj]
 refine ak (fun h=>?_) (fun h=>?_)
 ·have hlt:i < l.length:=by simpa using h
  have hx:l[i]?=some l[i]:=List.getElem?_eq_getElem hlt
  obtain⟨a,cs,e1,e2,hr⟩:=(hl i m1 lo1 hJ).index hT (k:=.i64) hx
  rw[e1,aa,e2,aa,bU]
  obtain⟨b,m2,hc,hh1,hh2⟩:=hs i _ m1 lo1 hx hJ cs hr
  refine aC hc ?_
  rw[aj]
  refine ak (fun hp=>?_) (fun hp=>?_)
  ·exact hR1 i _ _ hlt hp (hh1 hp)
  ·simp only[aG,aa]
   refine⟨i+1,by omega,w,?_,hlt,hh2 hp⟩
   rw[wrap64 (by omega) (by omega)]
   rfl
 ·have hge:i=l.length:=by
   have:¬((i:Int)< (l.length:Int)):=by simpa using h
   omega
  subst hge
  exact hR2 _ _ hJ
theorem mY{X:aF}{T t:TypeId}{α:Type}[aL α](hT:uF TE T t α){f:Nat}{fn:Func}(hX:KI X f)(hf:TE.fn.get f=some fn)(hn:Nat.ble 2 fn.ntmps=true)
  (hF:∀{W:Words} {x0 x1:Value} {m:M} {R:List Value->M->Nat->Prop},dt TE W fn [x0,x1] m R=Aw T t W x0 x1 m R)
  {m:M} {l:List α} {v:Value} {g:Fn} {fi ca:Array Value} (p:α->Bool) (hb:l.length < 4611686018427387904) (hl:iV m l v)
  (hs:∀x∈l,∀cs,aL.rep m x cs->C X g (fi.toList++([aL.val α cs]++ca.toList)) m m.n (.bool (p x)) m):
  C X (.func f) [v,.func g fi ca] m m.n (.int .i64 (idx p l)) m:=by
 refine Cl.flat hX hf hn rfl ?_
 rw[hF]
 refine vN hT (l:=l) (fun i m1 lo=>m1=m/\lo=m.n/\∀j x,j < i->l[j]?=some x->p x=false) (fun i m1 lo=>m1=m/\lo=m.n/\(∀j x,j < i->l[j]?=some x->p x=false)) (fun i=>match l[i]? with |some x=>p x |none=>false) hb ?_ ?_ ⟨rfl,rfl,fun j x hj=>by omega⟩ ?_ ?_
 ·rintro i m1 lo ⟨rfl,_,_⟩;exact hl
 ·rintro i x m1 lo hx ⟨rfl,rfl,hJ⟩ cs hr
  rw[hx]
  refine⟨_,_,hs x (List.mem_of_getElem? hx) cs hr,fun _=>⟨rfl,Nat.min_self _,hJ⟩,fun hp=>⟨rfl,Nat.min_self _,fun j y hj hy=>?_⟩⟩
  by_cases e:j=i
  ·subst e;rw[hx]at hy;cases hy;exact hp
  ·exact hJ j y (by omega) hy
 ·rintro i m2 lo2 hlt hp ⟨rfl,rfl,hJ⟩
  have hx:l[i]?=some l[i]:=List.getElem?_eq_getElem hlt
  rw[hx]at hp
  exact⟨by rw[aR,Jq hx hp hJ],Nat.le_refl _⟩
 ·rintro m2 lo2 ⟨rfl,rfl,hJ⟩
  exact⟨by rw[aR,GP fun x hx=>by obtain⟨j,hj⟩:=List.mem_iff_getElem?.1 hx;exact hJ j x (List.getElem?_eq_some_iff.1 hj).1 hj],Nat.le_refl _⟩
theorem oN{X:aF}{T t:TypeId}{α:Type}[aL α](hT:uF TE T t α){f:Nat}{fn:Func}(hX:KI X f)(hf:TE.fn.get f=some fn)(hn:Nat.ble 2 fn.ntmps=true)
  (hF:∀{W:Words} {x0 x1:Value} {m:M} {R:List Value->M->Nat->Prop},dt TE W fn [x0,x1] m R=Aw T t W x0 x1 m R)
  {m:M} {l:List α} {v:Value} {g:Fn} {fi ca:Array Value} (p:α->Bool) (hb:l.length < 4611686018427387904) (hl:Sl m l v)
  (hs:∀x∈l,∀cs,aL.rep m x cs->C X g (fi.toList++([aL.val α cs]++ca.toList)) m m.n (.bool (p x)) m):
  C X (.func f) [v,.func g fi ca] m m.n (.int .i64 (idx p l)) m:=mY hT hX hf hn hF p hb (.inl hl) hs
theorem At{X:aF}(hX:cW X){m:M}{l:List Pl}{v:Value}{g:Fn}{fi ca:Array Value}(p:Pl->Bool)(hb:l.length < 4611686018427387904)(hl:Sl m l v)
  (hs:∀x∈l,C X g (fi.toList++([x.v]++ca.toList)) m m.n (.bool (p x)) m):C X (.func 301) [v,.func g fi ca] m m.n (.int .i64 (idx p l)) m:=
 oN cX (hX.no _ rfl) LU rfl Jr p hb hl fun x hx cs hr=>by rw[show cs=x.c from hr];exact hs x hx
theorem nf{X:aF}(hX:cW X){m:M}{l:List Pl}{v:Value}{g:Fn}{fi ca:Array Value}(p:Pl->Bool)(hb:l.length < 4611686018427387904)(hl:Sl m l v)
  (hs:∀x∈l,C X g (fi.toList++([x.v]++ca.toList)) m m.n (.bool (p x)) m):C X (.func 211) [v,.func g fi ca] m m.n (.bool (l.any p)) m:=by
 refine Cl.flat (hX.no _ rfl) LZ rfl rfl ?_
 rw[show dt TE (aI TE X) Tryz.f211 _ m _=_ from QW]
 dsimp only[aI]
 refine aC (At hX p hb hl hs) ?_
 simp only[ck,aa,sA,aR]
 exact⟨trivial,by omega⟩
end Go.Proofs.YtmdfgncoekfgdaaGreatDoor
namespace Go.Proofs.YtmdfgncoekfgdaaGreatDoor
open Go Go.D
variable {X:aF} {m:M}
theorem bY{G:(List Value->M->Nat->Prop)->Prop}{k:List Value->M->Nat->Prop}(Q:List Value->M->Nat->Prop)(h1:∀R:List Value->M->Nat->Prop,(∀vs m lo,Q vs m lo->R vs m lo)->G R)(h2:∀vs m lo,Q vs m lo->k vs m lo):jn G k:=h1 k h2
theorem iQ{k:IntKind}{a b:Int}{ts:List TypeId}:an TE m .min ts [.int k a,.int k b]=some (.int k (min a b),m):=by
 show some (Value.int k (if b < a then b else a),m)=_
 congr 2
 congr 1
 split <;>omega
theorem oJ{k:IntKind}{a b:Int}{ts:List TypeId}:an TE m .max ts [.int k a,.int k b]=some (.int k (max a b),m):=by
 show some (Value.int k (if b >a then b else a),m)=_
 congr 2
 congr 1
 split <;>omega
theorem fW{b:Nat}{p:Pl}{e:TypeId}{g:Option Nat}(h:m.get b=.cells p.c e g):ag TE m 98 (.pointer (some ⟨b,0,none⟩))=some p.v:=by
 rw[vE,aE h (by simp[Pl.c])];rfl
def dn(a b c:Pl):Int:=(b.x-a.x)*(c.y-a.y)-(b.y-a.y)*(c.x-a.x)
def Kg(x:Int):Int:=IntKind.i64.wrap x
def Bp(a b c:Pl):Int:=Kg (Kg (Kg (b.x-a.x)*Kg (c.y-a.y))-Kg (Kg (b.y-a.y)*Kg (c.x-a.x)))
theorem IT(hX:cW X)(a b c:Pl):C X (.func 159) [a.v,b.v,c.v] m m.n (.int .i64 (Bp a b c)) m:=by
 refine Cl.flat (hX.no _ rfl) Mj rfl rfl ?_
 rw[Ra];dsimp only[aI]
 refine au fun m1 hn1 hg1 hk1=>?_
 refine au fun m2 hn2 hg2 hk2=>?_
 refine au fun m3 hn3 hg3 hk3=>?_
 have g1:=(hk3 m.n (by omega)).trans ((hk2 m.n (by omega)).trans hg1)
 have g2:=(hk3 m1.n (by omega)).trans hg2
 simp only[aP]at g1 g2 hg3
 simp only[aa,ar,bU,aj,bJ,aM,cK,aH,ck,bX,bE,bI,aX,ptrTo,di,dj,Nat.zero_add,Nat.reduceAdd,List.getElem?_cons_zero,List.getElem?_cons_succ,List.drop_zero,List.drop_succ_cons,List.take_succ_cons,List.take_zero,Option.map_some,aP,dI,dm,cP,dG,dH,dk,bK,cr,bu,av g1,av g2,av hg3,cz,cA]
 exact⟨rfl,Nat.le_refl _⟩
def Pl.sm(N:Int)(p:Pl):Prop:= -N<=p.x/\p.x<=N/\ -N<=p.y/\p.y<=N
theorem mB{a b N:Int}(ha: -N<=a)(ha':a<=N)(hb: -N<=b)(hb':b<=N): -(N*N)<=a*b/\a*b<=N*N:=by
 have h0:0<=N:=by omega
 have h1:0<=(N-a)*(N+b):=Int.mul_nonneg (by omega) (by omega)
 have h2:0<=(N+a)*(N-b):=Int.mul_nonneg (by omega) (by omega)
 have h3:0<=(N-a)*(N-b):=Int.mul_nonneg (by omega) (by omega)
 have h4:0<=(N+a)*(N+b):=Int.mul_nonneg (by omega) (by omega)
 constructor <;>grind
theorem wT{a b c:Pl}(ha:a.sm 1000000)(hb:b.sm 1000000)(hc:c.sm 1000000):Bp a b c=dn a b c:=by
 obtain⟨a1,a2,a3,a4⟩:=ha
 obtain⟨b1,b2,b3,b4⟩:=hb
 obtain⟨c1,c2,c3,c4⟩:=hc
 have p:=mB (a:=b.x-a.x) (b:=c.y-a.y) (N:=2000000) (by omega) (by omega) (by omega) (by omega)
 have q:=mB (a:=b.y-a.y) (b:=c.x-a.x) (N:=2000000) (by omega) (by omega) (by omega) (by omega)
 unfold Bp dn Kg
 rw[wrap64 (x:=b.x-a.x) (by omega) (by omega),wrap64 (x:=c.y-a.y) (by omega) (by omega),wrap64 (x:=b.y-a.y) (by omega) (by omega),wrap64 (x:=c.x-a.x) (by omega) (by omega)]
 rw[wrap64 (x:=(b.x-a.x)*(c.y-a.y)) (by omega) (by omega),wrap64 (x:=(b.y-a.y)*(c.x-a.x)) (by omega) (by omega),wrap64 (by omega) (by omega)]
def Pl.off(p:Pl):Bool:=decide (min p.x p.y < 0) ||decide (40 < max p.x p.y)
theorem Pl.on{p:Pl}(h:p.off=false):0<=p.x/\p.x<=40/\0<=p.y/\p.y<=40:=by
 simp only[Pl.off,Bool.or_eq_false_iff,decide_eq_false_iff_not]at h
 omega
theorem Pl.Gu{p:Pl}(h:p.off=false):p.sm 1000000:=by
 have:=Pl.on h
 exact⟨by omega,by omega,by omega,by omega⟩
theorem GM(hX:cW X)(p:Pl):C X (.func 212) [p.v] m m.n (.bool p.off) m:=by
 refine Cl.flat (hX.no _ rfl) LY rfl rfl ?_
 rw[QV];dsimp only[aI]
 refine au fun m1 hn1 hg1 hk1=>?_
 simp only[aP]at hg1
 refine bY (fun vs m2 lo=>vs=[.bool p.off]/\lo=m.n) (fun R hR=>?_) ?_
 ·simp only[aa,ar,bU,aj,bJ,aM,cK,aH,ck,bX,bE,bI,aX,ptrTo,di,dj,Nat.zero_add,Nat.reduceAdd,List.getElem?_cons_zero,List.getElem?_cons_succ,List.drop_zero,List.drop_succ_cons,List.take_succ_cons,List.take_zero,Option.map_some,aP,dI,dm,cP,dG,dH,dk,bK,cr,bu,av hg1,iQ,oJ]
  refine ak (fun h=>hR _ _ _ ⟨by simp only[Pl.off,h];rfl,rfl⟩) (fun h=>hR _ _ _ ⟨by simp only[Pl.off,h];rfl,rfl⟩)
 ·rintro _ m2 _ ⟨rfl,rfl⟩
  rw[aA]
  exact⟨rfl,Nat.le_refl _⟩
def FZ(l:List Pl)(i:Nat):Bool:=match l[i]?,l[(i+1)%l.length]? with
 |some a,some b=>l.zipIdx.all fun(c,k)=>k==i ||k==(i+1)%l.length ||decide (0 < dn a b c)
 |_,_=>false
def lu(l:List Pl):Bool:=(List.range l.length).all (FZ l)
def aY(l:List Pl):Bool:=decide (3<=l.length) && decide (l.length<=8) && !(l.any Pl.off) && lu l
theorem dD{l:List Pl}(h:aY l=true):3<=l.length/\l.length<=8:=by
 simp only[aY,Bool.and_eq_true,decide_eq_true_eq]at h
 exact⟨h.1.1.1,h.1.1.2⟩
theorem gY{l:List Pl}(h:aY l=true):∀p∈l,p.off=false:=by
 simp only[aY,Bool.and_eq_true,Bool.not_eq_true',List.any_eq_false]at h
 intro p hp
 simpa using h.1.2 p hp
theorem nZ{l:List Pl}(h:aY l=true):∀p∈l,p.sm 1000000:=fun p hp=>Pl.Gu (gY h p hp)
theorem om{l:List Pl}{i:Nat}{a b:Pl}(ha:l[i]?=some a)(hb:l[(i+1)%l.length]?=some b):
  FZ l i=true↔∀k c,l[k]?=some c->k=i\/k=(i+1)%l.length\/0 < dn a b c:=by
 unfold FZ
 rw[ha,hb]
 simp only[List.all_eq_true]
 constructor
 ·intro h k c hc
  have:=h (c,k) (by rw[List.mem_zipIdx_iff_getElem?];exact hc)
  simpa[or_assoc]using this
 ·rintro h ⟨c,k⟩ hc
  rw[List.mem_zipIdx_iff_getElem?]at hc
  simpa[or_assoc]using h k c hc
theorem zC{l:List Pl}(h:aY l=true){i k:Nat}{a b c:Pl}(ha:l[i]?=some a)(hb:l[(i+1)%l.length]?=some b)(hc:l[k]?=some c)(h1:k≠i)(h2:k≠(i+1)%l.length):0 < dn a b c:=by
 simp only[aY,Bool.and_eq_true,lu,List.all_eq_true,List.mem_range]at h
 have hr:=h.2 i (List.getElem?_eq_some_iff.1 ha).1
 rcases(om ha hb).1 hr k c hc with h |h |h
 ·exact absurd h h1
 ·exact absurd h h2
 ·exact h
end Go.Proofs.YtmdfgncoekfgdaaGreatDoor
namespace Go.Proofs.YtmdfgncoekfgdaaGreatDoor
open Go Go.D
variable {X:aF} {m:M}
theorem uO(hX:cW X){a b c:Pl}(ha:a.sm 1000000)(hb:b.sm 1000000)(hc:c.sm 1000000):C X (.func 159) [a.v,b.v,c.v] m m.n (.int .i64 (dn a b c)) m:=by
 rw[<-wT ha hb hc];exact IT hX a b c
theorem _root_.Go.D.Sl.iJ{l:List Pl}{v:Value}(h:Sl m l v){i:Nat}{p:Pl}(hi:l[i]?=some p){k:IntKind}:∃a,ai TE 45 v (.int k i)=some a/\ag TE m 98 a=some p.v:=by
 obtain⟨a,cs,h1,h2,h3⟩:=h.index cX (k:=k) hi
 rw[show cs=p.c from h3]at h2
 exact⟨a,h1,h2⟩
theorem kG{t:TypeId}{a b:Nat}(hb:b≠0):aq TE .rem t (.int .i64 a) (.int .i64 b)=some (.int .i64 ((a%b:Nat):Int)):=by
 rw[mM (by omega)]
 rfl
theorem jk(hX:cW X){l:List Pl}{v:Value}(hl:Sl m l v)(hb:l.length < 4611686018427387904):C X (.func 157) [v] m m.n (.bool (aY l)) m:=by
 refine Cl.flat (hX.no _ rfl) Ml rfl rfl ?_
 rw[Rc];dsimp only[aI]
 refine bY (fun vs m2 lo=>vs=[.bool (!(decide (3<=l.length) && decide (l.length<=8) && !(l.any Pl.off)))]/\m=m2/\m.n=lo) (fun R hR=>?_) ?_
 ·rw[hl.len cX]
  simp only[aa,ar,bU,aj,bJ,aM,cK,aH,ck,bX,bE,bI,aX,ptrTo,di,dj,Nat.zero_add,Nat.reduceAdd,List.getElem?_cons_zero,List.getElem?_cons_succ,List.drop_zero,List.drop_succ_cons,List.take_succ_cons,List.take_zero,Option.map_some,aP,dI,dm,cP,dG,dH,dk]
  refine ak (fun h=>hR _ _ _ ⟨by
                      have:¬3<=l.length:=by simp at h;omega
                      simp[this],rfl,rfl⟩) (fun h=>?_)
  have h3:3<=l.length:=by simp at h;omega
  refine ak (fun h=>hR _ _ _ ⟨by
                      have:¬l.length<=8:=by simp at h;omega
                      simp[this],rfl,rfl⟩) (fun h=>?_)
  have h8:l.length<=8:=by simp at h;omega
  refine aC (nf hX Pl.off hb hl fun x _=>GM hX x) ?_
  exact hR _ _ _ ⟨by simp[h3,h8],rfl,(Nat.min_self _).symm⟩
 ·rintro _ _ _ ⟨rfl,rfl,rfl⟩
  rw[aA,aj]
  refine ak (fun h=>?_) (fun h=>?_)
  ·refine⟨?_,Nat.le_refl _⟩
   simp only[Bool.not_eq_true']at h
   simp only[aR,aY,h,Bool.false_and]
  ·simp only[Bool.not_eq_false']at h
   simp only[Bool.and_eq_true,decide_eq_true_eq,Bool.not_eq_true']at h
   obtain⟨⟨h3,h8⟩,hoff⟩:=h
   have hon:∀p∈l,p.sm 1000000:=fun p hp=>Pl.Gu (by
    rw[List.any_eq_false]at hoff
    simpa using hoff p hp)
   have hv:∀r,lu l=r->aY l=r:=fun r hr=>by simp[aY,h3,h8,hoff,hr]
   rw[hl.len cX,ar]
   refine Lp.intro (γ:=Nat) (fun i=>l.length-i) (fun i vs m1 lo=>vs=[.bool false,.int .i64 i]/\i<=l.length/\Ext m m1/\m.n<=lo/\∀j,j < i->FZ l j=true) 0 ⟨rfl,Nat.zero_le _,.refl,Nat.le_refl _,fun j hj=>by omega⟩ ?_
   rintro i vs m1 lo1 ⟨rfl,hi,hx,hlo,hrow⟩
   simp only[aA,aH,aa,aj]
   refine ak (fun hlt=>?_) (fun hge=>?_)
   ·have hlt:i < l.length:=by simpa using hlt
    obtain⟨pa,hpa⟩:∃p,l[i]?=some p:=⟨_,List.getElem?_eq_getElem hlt⟩
    have hnx:(i+1)%l.length < l.length:=Nat.mod_lt _ (by omega)
    obtain⟨pb,hpb⟩:∃p,l[(i+1)%l.length]?=some p:=⟨_,List.getElem?_eq_getElem hnx⟩
    obtain⟨q,e1,e2⟩:=(hl.aB hx).iJ (k:=.i64) hpa
    rw[e1,aa,e2,aa]
    refine au fun m2 hn2 hg2 hk2=>?_
    simp only[ptrTo]
    refine aD gZ hg2 rfl rfl rfl fun m3 hn3 hg3 hk3=>?_
    have hx3:Ext m m3:=⟨by have:=hx.n;omega,fun b hb=>by have:=hx.n;rw[hk3 b (by omega),hk2 b (by omega),hx.get b hb]⟩
    simp only[aG,aa]
    rw[wrap64 (by omega) (by omega),(hl.aB hx3).len cX,ar]
    rw[show((i:Int)+1)=((i+1:Nat):Int) by omega,kG (by omega),aa,ar]
    refine Lp.intro (γ:=Nat) (fun k=>l.length-k) (fun k vs m4 lo4=>vs=[.bool false,.int .i64 k]/\k<=l.length/\Ext m m4/\m1.n < m4.n/\m4.get m1.n=.cells pa.c 98 none/\m.n<=lo4/\∀j c,j < k->l[j]?=some c->j=i\/j=(i+1)%l.length\/0 < dn pa pb c) 0
     ⟨rfl,Nat.zero_le _,hx3,by omega,hg3,by have:=hx.n;omega,fun j c hj=>by omega⟩ ?_
    rintro k vs m4 lo4 ⟨rfl,hk,hx4,hn4,hg4,hlo4,hcor⟩
    simp only[aA,aH,aa,aj]
    refine ak (fun hlt2=>?_) (fun hge2=>?_)
    ·have hlt2:k < l.length:=by simpa using hlt2
     obtain⟨pc,hpc⟩:∃p,l[k]?=some p:=⟨_,List.getElem?_eq_getElem hlt2⟩
     obtain⟨q,e1,e2⟩:=(hl.aB hx4).iJ (k:=.i64) hpc
     rw[e1,aa,e2,aa]
     refine au fun m5 hn5 hg5 hk5=>?_
     refine aD gZ hg5 rfl rfl rfl fun m6 hn6 hg6 hk6=>?_
     have hx6:Ext m m6:=⟨by have:=hx4.n;omega,fun b hb=>by have:=hx4.n;rw[hk6 b (by omega),hk5 b (by omega),hx4.get b hb]⟩
     have hg46:m6.get m1.n=.cells pa.c 98 none:=by rw[hk6 _ (by omega),hk5 _ (by omega),hg4]
     refine bY (fun vs m7 lo=>vs=[.bool (!(k==i ||k==(i+1)%l.length ||decide (0 < dn pa pb pc)))]/\m7=m6/\m.n<=lo) (fun R hR=>?_) ?_
     ·simp only[bI,aa,aj]
      have hlo6:m.n<=min lo4 m4.n:=by have:=hx4.n;omega
      refine ak (fun hne=>?_) (fun he=>?_)
      ·have hne:k≠i:=by simp at hne;omega
       refine ak (fun hne2=>?_) (fun he2=>?_)
       ·have hne2:k≠(i+1)%l.length:=by intro e;rw[e]at hne2;simp at hne2
        rw[fW hg46,aa]
        obtain⟨q,e1,e2⟩:=(hl.aB hx6).iJ (k:=.i64) hpb
        rw[e1,aa,e2,aa,fW hg6,aa]
        refine aC (uO hX (hon _ (List.mem_of_getElem? hpa)) (hon _ (List.mem_of_getElem? hpb)) (hon _ (List.mem_of_getElem? hpc))) ?_
        simp only[cK,aa]
        refine hR _ _ _ ⟨?_,rfl,by have:=hx6.n;omega⟩
        have:decide (dn pa pb pc<=0)= !(decide (0 < dn pa pb pc)):=by by_cases h:dn pa pb pc<=0 <;>simp[h] <;>omega
        rw[this]
        simp[hne,hne2]
       ·refine hR _ _ _ ⟨?_,rfl,hlo6⟩
        have:k=(i+1)%l.length:=by
         have h':(k:Int)=(((i+1)%l.length:Nat):Int):=by simpa using he2
         omega
        simp[this]
      ·refine hR _ _ _ ⟨?_,rfl,hlo6⟩
       have:k=i:=by simp at he;omega
       simp[this]
     ·rintro _ m7 lo7 ⟨rfl,rfl,hlo7⟩
      rw[aA,aj]
      refine ak (fun hbad=>?_) (fun hgood=>?_)
      ·have hc:lu l=false:=by
        cases hc:lu l with
        |false=>rfl
        |true=>
         simp only[lu,List.all_eq_true,List.mem_range]at hc
         have h2:=(om hpa hpb).1 (hc i hlt) k pc hpc
         simp only[Bool.not_eq_true',Bool.or_eq_false_iff,beq_eq_false_iff_ne,decide_eq_false_iff_not]at hbad
         omega
       exact⟨by rw[hv false hc];rfl,hlo7⟩
      ·simp only[aG,aa]
       rw[wrap64 (by omega) (by omega)]
       refine⟨k+1,by omega,by simp,by omega,hx6,by omega,hg46,hlo7,fun j c hj hc=>?_⟩
       by_cases hjk:j < k
       ·exact hcor j c hjk hc
       ·have:j=k:=by omega
        subst this
        rw[hpc]at hc;cases hc
        simp only[Bool.not_eq_false',Bool.or_eq_true,beq_iff_eq,decide_eq_true_eq]at hgood
        omega
    ·have hk':k=l.length:=by
      have:¬(k:Int)< (l.length:Int):=by simpa using hge2
      omega
     refine⟨i+1,by omega,by simp,by omega,hx4,hlo4,fun j hj=>?_⟩
     by_cases hji:j < i
     ·exact hrow j hji
     ·have:j=i:=by omega
      subst this
      rw[om hpa hpb]
      intro q c hq
      exact hcor q c (by have:=(List.getElem?_eq_some_iff.1 hq).1;omega) hq
   ·have hi':i=l.length:=by
     have:¬(i:Int)< (l.length:Int):=by simpa using hge
     omega
    have hc:lu l=true:=List.all_eq_true.2 fun j hj=>hrow j (by rw[List.mem_range]at hj;omega)
    exact⟨by rw[hv true hc];rfl,hlo⟩
end Go.Proofs.YtmdfgncoekfgdaaGreatDoor
namespace Go.Proofs.YtmdfgncoekfgdaaGreatDoor
open Go Go.D
variable {X:aF} {m:M}
def jC(l:List Pl):List (List Value):=l.mapIdx fun i a=> [a.v,match l[(i+1)%l.length]? with |some b=>b.v |none=>undef]
theorem HT{l:List Pl}{i:Nat}{a b:Pl}(ha:l[i]?=some a)(hb:l[(i+1)%l.length]?=some b):(jC l)[i]?=some [a.v,b.v]:=by
 unfold jC
 rw[List.getElem?_mapIdx,ha,Option.map_some,hb]
theorem uq{l:List Pl}{i:Nat}{args:List Value}(h:(jC l)[i]?=some args):∃a b,l[i]?=some a/\l[(i+1)%l.length]?=some b/\args=[a.v,b.v]:=by
 unfold jC at h
 rw[List.getElem?_mapIdx,Option.map_eq_some_iff]at h
 obtain⟨a,ha,h⟩:=h
 have hlt:=(List.getElem?_eq_some_iff.1 ha).1
 obtain⟨b,hb⟩:∃b,l[(i+1)%l.length]?=some b:=⟨_,List.getElem?_eq_getElem (Nat.mod_lt _ (by omega))⟩
 rw[hb]at h
 exact⟨a,b,ha,hb,h.symm⟩
theorem pY{l:List Pl}:(jC l).length=l.length:=by unfold jC;rw[List.length_mapIdx]
theorem ur(hX:cW X){l:List Pl}{v:Value}{b:Nat}(hlen:l.length < 4611686018427387904):
  JX TE X (fun _=>False) (.func 213) [] [ptrTo b] (jC l) (fun m=>m.get b=.cells [v] 45 none/\Sl m l v):=by
 intro y n0 B I J m hD hI hJ hy hn0 hB hyield h0
 refine Cl.gen (R:=fun v m2 b=>B<=b/\(I (jC l).length m2\/J m2)) (hX.no _ rfl) LX rfl ?_
 rw[show([]:List Value)++ .func (.yield y) #[] #[]::[ptrTo b]=[.func (.yield y) #[] #[],ptrTo b]from rfl,QU];dsimp only[aI]
 have ld:∀m1:M,m1.get b=.cells [v] 45 none->ag TE m1 45 (.pointer (some ⟨b,0,none⟩))=some v:=fun m1 h=>by rw[kO,av h];rfl
 simp only[ptrTo]
 rw[ld m (hD _ _ h0).1,aa,(hD _ _ h0).2.len cX,ar]
 refine Lp.intro (γ:=Nat) (fun i=>l.length-i) (fun i vs m1 lo=>vs=[.int .i64 i]/\i<=l.length/\I i m1/\n0<=m1.n/\B<=lo/\((i=0/\m1=m/\lo=m.n)\/lo < m.n)) 0 ⟨rfl,Nat.zero_le _,h0,hn0,by omega,.inl ⟨rfl,rfl,rfl⟩⟩ ?_
 rintro i vs m1 lo1 ⟨rfl,hi,hI1,hn1,hlo,hlow⟩
 simp only[aA,aH,aa,aj]
 refine ak (fun hlt=>?_) (fun hge=>?_)
 ·have hlt:i < l.length:=by simpa using hlt
  obtain⟨pa,hpa⟩:∃p,l[i]?=some p:=⟨_,List.getElem?_eq_getElem hlt⟩
  have hnx:(i+1)%l.length < l.length:=Nat.mod_lt _ (by omega)
  obtain⟨pb,hpb⟩:∃p,l[(i+1)%l.length]?=some p:=⟨_,List.getElem?_eq_getElem hnx⟩
  obtain⟨q,e1,e2⟩:=(hD _ _ hI1).2.iJ (k:=.i64) hpa
  rw[e1,aa,e2,aa]
  refine au fun m2 hn2 hg2 hk2=>?_
  refine aD gZ hg2 rfl rfl rfl fun m3 hn3 hg3 hk3=>?_
  have hx3:Ext m1 m3:=⟨by omega,fun b hb=>by rw[hk3 b (by omega),hk2 b hb]⟩
  have hI3:=hI _ _ _ hI1 hx3
  obtain⟨hb3,hs3⟩:=hD _ _ hI3
  rw[fW hg3,aa,ld m3 hb3,aa]
  simp only[aG,aa]
  rw[wrap64 (by omega) (by omega),hs3.len cX,ar]
  rw[show((i:Int)+1)=((i+1:Nat):Int) by omega,kG (by omega),aa]
  obtain⟨q,e1,e2⟩:=hs3.iJ (k:=.i64) hpb
  rw[e1,aa,e2,aa,bU]
  obtain⟨v2,m4,b4,hc,hB4,hy4,hfr,hres⟩:=hyield i [pa.v,pb.v] m3 (by omega) (HT hpa hpb) hI3
  refine aC hc ?_
  have hn4:m3.n<=m4.n:=hc.1
  rcases hres with⟨rfl,hI4⟩ |⟨rfl,hJ4⟩
  ·simp only[aX,aa,aj,Bool.not_true,aM]
   exact⟨i+1,by omega,rfl,by omega,hI4,by omega,by omega,.inr (by omega)⟩
  ·simp only[aX,aa,aj,Bool.not_false,bJ]
   exact .inr ⟨.inr (by omega),by omega,.inr hJ4⟩
 ·have hi':i=l.length:=by
   have:¬(i:Int)< (l.length:Int):=by simpa using hge
   omega
  have hI1':I (jC l).length m1:=by rw[pY,<-hi'];exact hI1
  rcases hlow with⟨h1,h2,h3⟩ |hlow
  ·rw[h2]at hI1'
   exact .inl ⟨rfl,by omega,by omega,.inl hI1'⟩
  ·exact .inr ⟨.inr hlow,by omega,.inl hI1'⟩
theorem ze(hX:cW X){v:Value}(hv:cells v=[v]):∃m',C X (.func 158) [v] m m.n (.func (.func 213) #[] #[ptrTo m.n]) m'/\Ext m m'/\m'.n=m.n+1/\m'.get m.n=.cells [v] 45 none:=by
 obtain⟨v',m',b,hc,rfl,rfl,h⟩:=Cl.heap (R:=fun w m' b=>w=.func (.func 213) #[] #[ptrTo m.n]/\b=m.n/\Ext m m'/\m'.n=m.n+1/\m'.get m.n=.cells [v] 45 none) (hX.no _ rfl) Mk rfl (m:=m) (args:=[v]) (by
  rw[Rb];dsimp only[aI]
  refine au fun m1 hn hg hk=>?_
  rw[hv]at hg
  exact⟨.inl rfl,rfl,by omega,⟨by omega,fun b hb=>hk b hb⟩,hn,hg⟩)
 exact⟨m',hc,h⟩
end Go.Proofs.YtmdfgncoekfgdaaGreatDoor
namespace Go.Proofs.YtmdfgncoekfgdaaGreatDoor
open Go Go.D
variable {X:aF} {m:M}
def oW(a b:Int):Int:=if a < b then -1 else if b < a then 1 else 0
theorem yQ(hX:cW X)(a:Int):C X (.func 289) [.int .i64 a] m m.n (.bool false) m:=by
 refine Cl.flat (hX.no _ rfl) LV rfl rfl ?_
 rw[QS];dsimp only[aI]
 simp only[bI,aa]
 exact⟨by simp[aR],Nat.le_refl _⟩
theorem AO(hX:cW X)(a b:Int):C X (.func 186) [.int .i64 a,.int .i64 b] m m.n (.int .i64 (oW a b)) m:=by
 refine Cl.flat (hX.no _ rfl) Md rfl rfl ?_
 rw[Q4];dsimp only[aI]
 refine aC (yQ hX a) (aC (yQ hX b) ?_)
 simp only[aj,aM,aH,bX,aa]
 refine ak (fun h=>?_) (fun h=>?_)
 ·have:a < b:=by simpa using h
  exact⟨by simp[aR,oW,this],by omega⟩
 ·have h1:¬a < b:=by simpa using h
  refine ak (fun h=>?_) (fun h=>?_)
  ·have h2:b < a:=by simpa using h
   exact⟨by simp[aR,oW,h1,h2],by omega⟩
  ·have h2:¬b < a:=by simpa using h
   exact⟨by simp[aR,oW,h1,h2],by omega⟩
def dA(l:List Pl)(p:Pl):Nat->Int
 |0=>4611686018427387903
 |i+1=>match l[i]?,l[(i+1)%l.length]? with
  |some a,some b=>min (dA l p i) (dn a b p)
  |_,_=>dA l p i
def qf(l:List Pl)(p:Pl):Int:=oW (dA l p l.length) 0
theorem IZ(hX:cW X){l:List Pl}{v:Value}{p:Pl}(hl:Sl m l v)(hb:l.length < 4611686018427387904)(hsm:∀a∈l,a.sm 1000000)(hp:p.sm 1000000):
  C X (.func 179) [v,p.v] m m.n (.int .i64 (qf l p)) m:=by
 refine Cl.flat (hX.no _ rfl) Mf rfl rfl ?_
 rw[Q6];dsimp only[aI]
 refine au fun m1 hn1 hg1 hk1=>?_
 refine au fun m2 hn2 hg2 hk2=>?_
 simp only[aP]at hg1
 simp only[ptrTo]
 refine aD kf hg2 rfl rfl rfl fun m3 hn3 hg3 hk3=>?_
 have g1:m3.get m.n=.cells p.c 98 none:=by rw[hk3 _ (by omega),hk2 _ (by omega),hg1];rfl
 have hx3:Ext m m3:=⟨by omega,fun b hb=>by rw[hk3 b (by omega),hk2 b (by omega),hk1 b hb]⟩
 obtain⟨m6,hc,hx6,hn6,hg6⟩:=ze (m:=m3) hX hl.cells
 refine aC hc ?_
 rw[bU]
 have g16:m6.get m.n=.cells p.c 98 none:=by rw[hx6.get _ (by omega),g1]
 have g26:m6.get m1.n=.cells [.int .i64 4611686018427387903] 3 none:=by rw[hx6.get _ (by omega),hg3];rfl
 have hl6:Sl m6 l v:=(hl.aB hx3).aB hx6
 refine⟨_,jC l,_,fun i mm=>m6.n<=mm.n/\(∀c,c < m6.n->c≠m1.n->mm.get c=m6.get c)/\mm.get m1.n=.cells [.int .i64 (dA l p i)] 3 none,fun _ _=>False,m.n,⟨_,rfl⟩,ur hX hb (v:=v) (b:=m3.n),by omega,?_,?_,?_,⟨Nat.le_refl _,fun _ _ _=>rfl,g26⟩,?_,?_,?_⟩
 ·rintro i mm ⟨h1,h2,h3⟩
  refine⟨by rw[h2 _ (by omega) (by omega),hg6],?_⟩
  refine hl.bt fun b c t g hb ht=>?_
  have:=M.aV hb
  rw[h2 b (by omega) (by omega),hx6.get b (by omega),hx3.get b this,hb]
 ·rintro i mm mm2 ⟨h1,h2,h3⟩ hk
  exact⟨by have:=hk.n;omega,fun c hc hne=>by rw[hk.get c (by omega) (by omega),h2 c hc hne],by rw[hk.get _ (by omega) (by omega),h3]⟩
 ·rintro e mm mm2 h;exact h.elim
 ·rintro i args m9 hn9 hx ⟨h1,h2,h3⟩
  obtain⟨pa,pb,hpa,hpb,rfl⟩:=uq hx
  rw[aA,aA]
  show zD [] _
  unfold zD
  refine au fun m15 hn15 hg15 hk15=>?_
  refine aD gZ hg15 rfl rfl rfl fun m16 hn16 hg16 hk16=>?_
  refine au fun m18 hn18 hg18 hk18=>?_
  refine aD gZ hg18 rfl rfl rfl fun m19 hn19 hg19 hk19=>?_
  have eO:∀c,c < m9.n->m19.get c=m9.get c:=fun c hc=>by rw[hk19 c (by omega),hk18 c (by omega),hk16 c (by omega),hk15 c hc]
  refine⟨fun c _ hc=>eO c hc,fun m21 hn21 hk21=>?_⟩
  have r1:m21.get m1.n=.cells [.int .i64 (dA l p i)] 3 none:=by rw[hk21 _ (by omega),eO _ (by omega),h3]
  have r2:m21.get m9.n=.cells pa.c 98 none:=by rw[hk21 _ (by omega),hk19 _ (by omega),hk18 _ (by omega),hg16];rfl
  have r3:m21.get m16.n=.cells pb.c 98 none:=by rw[hk21 _ (by omega),hg19];rfl
  have r4:m21.get m.n=.cells p.c 98 none:=by rw[hk21 _ (by omega),eO _ (by omega),h2 _ (by omega) (by omega),g16]
  dsimp only
  rw[bu,av r1]
  simp only[List.getElem?_cons_zero,aa]
  rw[fW r2,aa,fW r3,aa,fW r4,aa]
  refine aC (uO hX (hsm _ (List.mem_of_getElem? hpa)) (hsm _ (List.mem_of_getElem? hpb)) hp) ⟨Nat.le_refl _,?_⟩
  rw[iQ,ar]
  refine aD kf r1 rfl rfl rfl fun m30 hn30 hg30 hk30=>?_
  refine⟨by omega,fun c h1c h2c _=>hk30 c (by omega),?_⟩
  refine⟨by omega,fun c hc hne=>?_,?_⟩
  ·rw[hk30 c (by omega),hk21 c (by omega),eO c (by omega),h2 c hc hne]
  ·rw[hg30,dA,hpa,hpb];rfl
 ·rintro mm lo2 ⟨h1,h2,h3⟩ hlo
  rw[bu,av h3]
  simp only[List.getElem?_cons_zero,aa]
  refine aC (AO hX _ _) ⟨by rw[pY];rfl,by omega⟩
 ·rintro e mm lo2 _ h;exact h.elim
end Go.Proofs.YtmdfgncoekfgdaaGreatDoor
namespace Go.Proofs.YtmdfgncoekfgdaaGreatDoor
open Go Go.D
variable {X:aF} {m:M}
theorem fZ:az TE m 45 0 []=some (.slice (some ⟨m.n,0,none⟩) 0 0,m.push (.cells [] 98 none)):=by kernel_rfl
theorem AP(hX:cW X){l:List Pl}{v:Value}(hl:Sl m l v)(hne:l≠ [])(hs:l.length<=1000000):
  ∃v' m',C X (.func 155) [v] m m.n v' m'/\Ow m.n m' l v'/\Ext m m':=by
 have key:=Cl.heap (E:=TE) (X:=X) (f:=155) (args:=[v]) (m:=m) (R:=fun v' m' b=>b=m.n/\Ow m.n m' l v'/\Ext m m') (hX.no _ rfl) Mm rfl ?_
 ·obtain⟨v',m',b,hc,rfl,h3⟩:=key
  exact⟨v',m',hc,h3⟩
 ·rw[Rd];dsimp only[aI]
  have hnil:aq TE .eql 45 v (.slice none 0 0)=some (.bool false):=by
   rcases hl with⟨_,rfl⟩ |⟨b,o,c,bc,g,rfl,_⟩
   ·exact absurd rfl hne
   ·simp only[aq,eq?,od,af.t45,Option.map_some]
  rw[hnil]
  simp only[aa,aj,aM]
  rw[fZ,ar]
  have he1:Ext m (m.push (.cells [] 98 none)):=Ext.refl.push
  obtain⟨v',m1,e1,hOw,he,hlow⟩:=ir (m:=m.push (.cells [] 98 none)) kX (b:=m.n) M.aN (hl.aB he1) hne hs
  rw[e1,ar]
  have hfl:=hOw.flat hne
  rw[M.uU]at hlow
  exact⟨.inl hfl,by omega,hOw.mono (by rw[M.uU];omega),he1.trans he⟩
def nv(l:List Pl):List Value:=l.flatMap Pl.c
theorem hU{p:Pl}{l:List Pl}:nv (p::l)=.int .i64 p.x::.int .i64 p.y::nv l:=rfl
theorem iN:∀l:List Pl,(nv l).length=l.length*2
 |[]=>rfl
 |p::l=>by rw[hU,List.length_cons,List.length_cons,iN l,List.length_cons];omega
theorem Gi:∀{l:List Pl} {i:Nat} {p:Pl},l[i]?=some p->(nv l)[i*2]?=some (.int .i64 p.x)
 |q::l,0,p,h=>by cases h;rfl
 |q::l,i+1,p,h=>by
  rw[hU,show(i+1)*2=i*2+1+1 by omega,List.getElem?_cons_succ,List.getElem?_cons_succ]
  exact Gi (by simpa using h)
theorem Gh:∀{l:List Pl} {i:Nat} {p:Pl},l[i]?=some p->(nv l)[i*2+1]?=some (.int .i64 p.y)
 |q::l,0,p,h=>by cases h;rfl
 |q::l,i+1,p,h=>by
  rw[hU,show(i+1)*2+1=i*2+1+1+1 by omega,List.getElem?_cons_succ,List.getElem?_cons_succ]
  exact Gh (by simpa using h)
theorem rJ:∀{l:List Pl} {i:Nat} {p:Pl} (x:Int),l[i]?=some p->(nv l).set (i*2) (.int .i64 x)=nv (l.set i ⟨x,p.y⟩)
 |q::l,0,p,x,h=>by cases h;rfl
 |q::l,i+1,p,x,h=>by
  rw[hU,show(i+1)*2=i*2+1+1 by omega,List.set_cons_succ,List.set_cons_succ,rJ x (by simpa using h),List.set_cons_succ,hU]
theorem xR:∀{l:List Pl} {i:Nat} {p:Pl} (y:Int),l[i]?=some p->(nv l).set (i*2+1) (.int .i64 y)=nv (l.set i ⟨p.x,y⟩)
 |q::l,0,p,x,h=>by cases h;rfl
 |q::l,i+1,p,x,h=>by
  rw[hU,show(i+1)*2+1=i*2+1+1+1 by omega,List.set_cons_succ,List.set_cons_succ,xR x (by simpa using h),List.set_cons_succ,hU]
theorem Gj:∀{l:List Pl} {cs:List Value},cs.length=l.length*2->(∀i x,l[i]?=some x->chunk cs 2 i=x.c)->cs=nv l
 |[],cs,h,_=>by
  have:cs=[]:=List.length_eq_zero_iff.1 (by simpa using h)
  rw[this];rfl
 |p::l,a::b::cs,h,hc=>by
  have h0:=hc 0 p rfl
  simp only[chunk,Nat.zero_mul,List.drop_zero,List.take_succ_cons,List.take_zero,Pl.c]at h0
  injection h0 with e1 e2
  injection e2 with e2 _
  rw[hU,e1,e2,<-Gj (l:=l) (cs:=cs) (by simp at h;omega) (fun i x hi=>by
   have:=hc (i+1) x (by simpa using hi)
   simp only[chunk]at this⊢
   rw[show(i+1)*2=i*2+1+1 by omega,List.drop_succ_cons,List.drop_succ_cons]at this
   exact this)]
 |p::l,[],h,_=>by simp at h
 |p::l,[a],h,_=>by simp at h;omega
theorem tW{l:List Pl}{i:Nat}{p:Pl}(h:l[i]?=some p):chunk (nv l) 2 i=p.c:=by
 have hx:=Gi h
 have hy:=Gh h
 have hl:=iN l
 have hi:=(List.getElem?_eq_some_iff.1 h).1
 unfold chunk
 refine List.ext_getElem? fun k=>?_
 match k with
 |0=>rw[List.getElem?_take_of_lt (by omega),List.getElem?_drop,Nat.add_zero];exact hx
 |1=>rw[List.getElem?_take_of_lt (by omega),List.getElem?_drop];exact hy
 |k+2=>
  rw[List.getElem?_eq_none (by rw[List.length_take];omega)]
  rfl
theorem zN{l:List Pl}{b:Nat}{c:Nat}{g:Option Nat}(h:m.get b=.cells (nv l) 98 g):Sl m l (.slice (some ⟨b,0,none⟩) l.length c):=
 .inr ⟨b,0,c,nv l,g,rfl,h,by rw[iN];show 0+l.length*2<=_;omega,fun i x hi=>by
  rw[Nat.zero_add]
  exact tW hi⟩
theorem GO{b n c i:Nat}{k:IntKind}(hi:i < n):ai TE 45 (.slice (some ⟨b,0,none⟩) n c) (.int k i)=some (.pointer (some ⟨b,i*2,none⟩)):=by
 have hc:0<=(i:Int)/\(i:Int)< (n:Int)/\0 < af.t45.es:=⟨by omega,by omega,by decide⟩
 have hd:af.t45.d=.slice 98:=rfl
 simp only[ai,od,hd]
 rw[if_pos hc,bC rfl,Nat.zero_add]
 rfl
theorem gC{cs:List Value}{i:Nat}{x:Value}(h:i < cs.length):cs.take i++([x]++cs.drop (i+1))=cs.set i x:=by
 rw[List.set_eq_take_append_cons_drop,if_pos h];rfl
def Pl.uw(p:Pl):Pl:=⟨2*p.x,2*p.y⟩
def mixed(l:List Pl)(i:Nat):List Pl:=(l.take i).map Pl.uw++l.drop i
theorem Gy{l:List Pl}{i:Nat}{p:Pl}(h:l[i]?=some p):(mixed l i)[i]?=some p:=by
 have hi:=(List.getElem?_eq_some_iff.1 h).1
 unfold mixed
 rw[List.getElem?_append_right (by simp;omega)]
 simp only[List.length_map,List.length_take,List.getElem?_drop]
 rw[show i+(i-min i l.length)=i by omega,h]
theorem Dv{l:List Pl}{i:Nat}(h:i<=l.length):(mixed l i).length=l.length:=by
 unfold mixed
 simp;omega
theorem Ao{l:List Pl}{i:Nat}{p:Pl}(h:l[i]?=some p):(mixed l i).set i p.uw=mixed l (i+1):=by
 have hi:=(List.getElem?_eq_some_iff.1 h).1
 unfold mixed
 rw[List.set_append_right (h:=by simp;omega)]
 simp only[List.length_map,List.length_take]
 rw[show i-min i l.length=0 by omega,List.take_add_one,h,Option.toList_some,List.map_append,List.append_assoc]
 congr 1
 rw[List.drop_eq_getElem_cons hi,List.set_cons_zero]
 rfl
def fY(l:List Pl)(x y:Int):Int:=if aY l && decide (0<=min x y) && decide (max x y < 40)then qf (l.map Pl.uw) ⟨2*x+1,2*y+1⟩else -1
theorem Cf(hX:cW X){l:List Pl}{v:Value}(hl:Sl m l v)(hb:l.length < 4611686018427387904)(x y:Int):C X (.func 119) [v,.int .i64 x,.int .i64 y] m m.n (.int .i64 (fY l x y)) m:=by
 refine Cl.flat (hX.no _ rfl) MF rfl rfl ?_
 rw[Ru];dsimp only[aI]
 refine bY (fun vs m2 lo=>vs=[.bool (!(aY l && decide (0<=min x y) && decide (max x y < 40)))]/\m=m2/\m.n=lo) (fun R hR=>?_) ?_
 ·refine aC (jk hX hl hb) ?_
  simp only[aX,aa,aj,iQ,ar,aH]
  refine ak (fun h=>hR _ _ _ ⟨by simp only[Bool.not_eq_true']at h;simp[h],rfl,by omega⟩) (fun h=>?_)
  simp only[Bool.not_eq_false']at h
  refine ak (fun h2=>hR _ _ _ ⟨by
                       simp only[decide_eq_true_eq]at h2;have:¬0<=min x y:=by omega
                       simp[this],rfl,by omega⟩) (fun h2=>?_)
  rw[oJ,ar,ck,aa]
  simp only[decide_eq_false_iff_not]at h2
  refine hR _ _ _ ⟨?_,rfl,by omega⟩
  have e1:decide (0<=min x y)=true:=by simp;omega
  have e2:decide (40<=max x y)= !decide (max x y < 40):=by by_cases h:max x y < 40 <;>simp[h] <;>omega
  rw[h,e1,e2];rfl
 ·rintro _ _ _ ⟨rfl,rfl,rfl⟩
  rw[aA,aj]
  refine ak (fun h=>?_) (fun h=>?_)
  ·simp only[Bool.not_eq_true']at h
   exact⟨by simp only[aR,fY,h];rfl,Nat.le_refl _⟩
  ·simp only[Bool.not_eq_false']at h
   have hcell:fY l x y=qf (l.map Pl.uw) ⟨2*x+1,2*y+1⟩:=by unfold fY;rw[if_pos h]
   simp only[Bool.and_eq_true,decide_eq_true_eq]at h
   obtain⟨⟨hv,h0⟩,h40⟩:=h
   have hlen:=dD hv
   have hne:l≠ []:=by rintro rfl;simp at hlen
   obtain⟨v',m2,hc,hOw,hx⟩:=AP hX hl hne (by omega)
   refine aC hc ?_
   rcases hOw with⟨_,rfl⟩ |⟨b,cs,rfl,hpos,hbn,hg,hcl,hch⟩
   ·exact absurd rfl hne
   obtain rfl:cs=nv l:=Gj hcl hch
   have hm0:mixed l 0=l:=by unfold mixed;simp
   have hlen2:∀mm:M,an TE mm .len [45] [.slice (some ⟨b,0,none⟩) l.length l.length]=some (.int .i64 l.length,mm):=fun mm=>LD
   rw[hlen2,ar]
   refine Lp.intro (γ:=Nat) (fun i=>l.length-i) (fun i vs m1 lo=>vs=[.int .i64 i]/\i<=l.length/\m2.n<=m1.n/\m1.get b=.cells (nv (mixed l i)) 98 (some 2)/\m.n<=lo) 0 ⟨rfl,Nat.zero_le _,Nat.le_refl _,by rw[hm0];exact hg,by omega⟩ ?_
   rintro i vs m1 lo1 ⟨rfl,hi,hn,hgi,hlo⟩
   simp only[aA,aH,aa,aj]
   refine ak (fun hlt=>?_) (fun hge=>?_)
   ·have hlt:i < l.length:=by simpa using hlt
    obtain⟨p,hp⟩:∃p,l[i]?=some p:=⟨_,List.getElem?_eq_getElem hlt⟩
    have hsm:=Pl.on (gY hv p (List.mem_of_getElem? hp))
    have hat:=Gy hp
    have hmlen:=Dv (l:=l) (i:=i) (by omega)
    simp only[GO hlt,aa,bK,cr,Nat.add_zero]
    rw[bu,av hgi,Gi hat,aa,cA,aa,wrap64 (by omega) (by omega)]
    refine bM kf hgi rfl (by rw[iN,hmlen];show i*2+1<=_;omega) rfl fun m3 hn3 hg3 hk3=>?_
    have hg3':m3.get b=.cells (nv ((mixed l i).set i ⟨p.x*2,p.y⟩)) 98 (some 2):=by
     rw[hg3,<-rJ _ hat,<-gC (by rw[iN,hmlen];omega)];rfl
    have hat3:((mixed l i).set i ⟨p.x*2,p.y⟩)[i]?=some ⟨p.x*2,p.y⟩:=by rw[List.getElem?_set_self (by rw[hmlen];exact hlt)]
    rw[bu,av hg3',Gh hat3,aa]
    simp only[cA,aa]
    rw[wrap64 (by omega) (by omega)]
    refine bM kf hg3' rfl (by rw[iN,List.length_set,hmlen];show i*2+1+1<=_;omega) rfl fun m4 hn4 hg4 hk4=>?_
    have hg4':m4.get b=.cells (nv (mixed l (i+1))) 98 (some 2):=by
     rw[hg4,<-Ao hp,show p.uw=⟨p.x*2,p.y*2⟩ by unfold Pl.uw;congr 1 <;>omega,
      show(mixed l i).set i ⟨p.x*2,p.y*2⟩=((mixed l i).set i ⟨p.x*2,p.y⟩).set i ⟨p.x*2,p.y*2⟩ by rw[List.set_set],<-xR _ hat3,<-gC (by rw[iN,List.length_set,hmlen];omega)];rfl
    rw[aG,aa,wrap64 (by omega) (by omega)]
    exact⟨i+1,by omega,by simp,by omega,by omega,hg4',by omega⟩
   ·have hi':i=l.length:=by
     have:¬(i:Int)< (l.length:Int):=by simpa using hge
     omega
    simp only[cA,aG,aa]
    rw[wrap64 (x:=2*x) (by omega) (by omega),wrap64 (x:=2*x+1) (by omega) (by omega),wrap64 (x:=2*y) (by omega) (by omega),wrap64 (x:=2*y+1) (by omega) (by omega)]
    rw[cd rfl rfl,aa]
    have hm:mixed l i=l.map Pl.uw:=by unfold mixed;rw[hi',List.take_length,List.drop_length,List.append_nil]
    rw[hm]at hgi
    have hs:=zN (c:=l.length) hgi
    rw[List.length_map]at hs
    refine aC (IZ hX (p:=⟨2*x+1,2*y+1⟩) hs (by rw[List.length_map];exact hb) ?_ ⟨by show -1000000<=2*x+1;omega,by show 2*x+1<=1000000;omega,by show -1000000<=2*y+1;omega,by show 2*y+1<=1000000;omega⟩) ?_
    ·intro a ha
     obtain⟨p,hp,rfl⟩:=List.mem_map.1 ha
     have:=Pl.on (gY hv p hp)
     exact⟨by show -1000000<=2*p.x;omega,by show 2*p.x<=1000000;omega,by show -1000000<=2*p.y;omega,by show 2*p.y<=1000000;omega⟩
    ·exact⟨by rw[aR,hcell],by have:=hx.n;omega⟩
end Go.Proofs.YtmdfgncoekfgdaaGreatDoor
namespace Go.Proofs.YtmdfgncoekfgdaaGreatDoor
open Go Go.D
set_option maxRecDepth 100000 in
theorem Rl{W:Words}{x0 x1:Value}{m:M}{R:List Value->M->Nat->Prop}:dt TE W Tryz.f132 [x0,x1] m R=
(W.bW (M.push m (.cells [(.int .i64 0),(.int .i64 0),(.int .i64 0),(.slice none 0 0),(.int .i64 0),(.int .i64 0)] 87 none)) fun a=>W.aK (an TE a .len [29] [x0]) fun b _=>W.Lp (fun c d f g=>W.un d fun h i=>W.un i fun j k=>W.ah (aq TE .lss 3 j b) fun l=>aW l
(W.ah (ai TE 29 x0 j) fun n=>W.ah (ag TE f 87 n) fun o=>W.bW (M.push f (.cells [(.int .i64 0),(.int .i64 0),(.int .i64 0),(.slice none 0 0),(.int .i64 0),(.int .i64 0)] 87 none)) fun p=>W.aK (aw TE p 87 (ptrTo f.n) o) fun q r=>W.jn (fun s=>W.ah (fK .not h) fun t=>aW t
(s [(.bool true)] q (min g r))
(W.ah (ag TE q 87 (ptrTo f.n)) fun u=>W.ah (ag TE q 87 (ptrTo m.n)) fun v=>oG x1 fun w y z=>W.bz w (y.toList++([u,v]++z.toList)) q fun A B C=>s [A] B (min (min g r) C)))
(fun D E F=>W.un D fun G H=>aW G
(W.ah (ag TE E 87 (ptrTo f.n)) fun I=>W.aK (aw TE E 87 (ptrTo m.n) I) fun J K=>W.ah (aq TE .add 3 j (.int .i64 1)) fun L=>c [(.bool true),L] J (min F K))
(W.ah (aq TE .add 3 j (.int .i64 1)) fun N=>c [h,N] E F)))
(W.ah (ag TE f 87 (ptrTo m.n)) fun O=>W.aK (aw TE f 87 (ptrTo m.n) O) fun P Q=>ah (ag TE P 87 (ptrTo m.n)) fun S=>R [S,h] P (min g Q))) [(.bool false),(.int .i64 0)] a m.n):=by kernel_rfl
set_option maxRecDepth 100000 in
theorem Rk{W:Words}{x0 x1:Value}{m:M}{R:List Value->M->Nat->Prop}:dt TE W Tryz.f133 [x0,x1] m R=
(W.bW (M.push m (.cells (cells x0) 87 none)) fun a=>W.bW (M.push a (.cells (cells x1) 87 none)) fun b=>W.ah (ae TE 87 (ptrTo m.n) 4) fun c=>W.ah (ag TE b 3 c) fun d=>W.ah (ae TE 87 (ptrTo a.n) 4) fun f=>W.ah (ag TE b 3 f) fun g=>W.ah (aq TE .lss 3 d g) fun h=>R [h] b m.n):=by kernel_rfl
set_option maxRecDepth 100000 in
theorem Rj{W:Words}{x0 x1:Value}{m:M}{R:List Value->M->Nat->Prop}:dt TE W Tryz.f134 [x0,x1] m R=
(W.bW (M.push m (.cells (cells x0) 87 none)) fun a=>W.bW (M.push a (.cells (cells x1) 87 none)) fun b=>W.ah (ae TE 87 (ptrTo m.n) 5) fun c=>W.ah (ag TE b 3 c) fun d=>W.ah (ae TE 87 (ptrTo a.n) 5) fun f=>W.ah (ag TE b 3 f) fun g=>W.ah (aq TE .gtr 3 d g) fun h=>R [h] b m.n):=by kernel_rfl
set_option maxRecDepth 100000 in
theorem Rm{W:Words}{x0 x1:Value}{m:M}{R:List Value->M->Nat->Prop}:dt TE W Tryz.f131 [x0,x1] m R=
(W.bW (M.push m (.cells (cells x0) 87 none)) fun a=>W.ah (fK .not x1) fun b=>aW b
(R [(.int .i64 (-1))] a m.n)
(W.ah (ae TE 87 (ptrTo m.n) 0) fun c=>W.ah (ag TE a 3 c) fun d=>R [d] a m.n)):=by kernel_rfl
set_option maxRecDepth 100000 in
theorem YG{W:Words}{x0 x1 x2:Value}{m:M}{R:List Value->M->Nat->Prop}:dt TE W Tryz.f68 [x0,x1,x2] m R=
(W.bW (M.push m (.cells [(.int .i64 0),(.int .i64 0),(.slice none 0 0)] 27 none)) fun a=>W.ah (aO TE 27 [(0,x0),(1,x1)]) fun b=>W.bW (M.push a (.cells [(.int .i64 0),(.int .i64 0),(.slice none 0 0)] 27 none)) fun c=>W.aK (aw TE c 27 (ptrTo a.n) b) fun d f=>W.Lp (fun g h i j=>W.un h fun k l=>W.ah (aq TE .lss 3 k x1) fun n=>aW n
(W.Lp (fun o p q r=>W.un p fun s t=>W.ah (aq TE .lss 3 s x0) fun u=>aW u
(W.ah (ae TE 27 (ptrTo a.n) 2) fun v=>W.ah (ag TE q 25 v) fun w=>oG x2 fun y z A=>W.bz y (z.toList++([s,k]++A.toList)) q fun B C D=>(M.n q<=D)/\(W.aK (az TE C 25 1 [(0,B)]) fun E F=>W.aK (an TE (M.wl F F.n) .append [25,25] [w,E]) fun G H=>W.ah (ae TE 27 (ptrTo a.n) 2) fun I=>W.aK (aw TE H 25 I G) fun J K=>W.ah (aq TE .add 3 s (.int .i64 1)) fun L=>o [L] J (min (min (min r D) (M.low H)) K)))
(W.ah (aq TE .add 3 k (.int .i64 1)) fun N=>g [N] q r)) [(.int .i64 0)] i j)
(W.ah (ag TE i 27 (ptrTo a.n)) fun O=>W.aK (aw TE i 27 (ptrTo m.n) O) fun P Q=>ah (ag TE P 27 (ptrTo m.n)) fun S=>R [S] P (min j Q))) [(.int .i64 0)] d (min m.n f)):=by kernel_rfl
set_option maxRecDepth 100000 in
theorem YH{W:Words}{x0:Value}{m:M}{R:List Value->M->Nat->Prop}:dt TE W Tryz.f67 [x0] m R=
(W.bW (M.push m (.cells (cells x0) 31 none)) fun a=>W.bW (M.push a (.map [] 0)) fun b=>W.ah (ae TE 31 (ptrTo m.n) 0) fun c=>W.ah (ag TE b 29 c) fun d=>W.aK (an TE b .len [29] [d]) fun f _=>W.Lp (fun g h i j=>W.un h fun k l=>W.ah (aq TE .lss 3 k f) fun n=>aW n
(W.ah (ai TE 29 d k) fun o=>W.ah (ag TE i 87 o) fun p=>W.bW (M.push i (.cells [(.int .i64 0),(.int .i64 0),(.int .i64 0),(.slice none 0 0),(.int .i64 0),(.int .i64 0)] 87 none)) fun q=>W.aK (aw TE q 87 (ptrTo i.n) p) fun r s=>W.ah (ae TE 87 (ptrTo i.n) 3) fun t=>W.ah (ag TE r 45 t) fun u=>W.ah (ai TE 45 u (.int .i64 0)) fun v=>W.ah (ag TE r 98 v) fun w=>W.ah (ae TE 87 (ptrTo i.n) 3) fun y=>W.ah (ag TE r 45 y) fun z=>W.ah (ai TE 45 z (.int .i64 0)) fun A=>W.ah (ag TE r 98 A) fun B=>W.bW (M.push r (.cells [(.int .i64 0),(.int .i64 0)] 98 none)) fun C=>W.bW (M.push C (.cells [(.int .i64 0),(.int .i64 0)] 98 none)) fun D=>W.aK (aw TE D 98 (ptrTo r.n) w) fun E F=>((M.n D<=F)\/(fq (some (.v y)) F/\(fq (some (.v A)) F/\True)))/\(W.aK (aw TE E 98 (ptrTo C.n) B) fun G H=>W.ah (ae TE 87 (ptrTo i.n) 3) fun I=>W.ah (ag TE G 45 I) fun J=>W.aK (an TE G .len [45] [J]) fun K _=>W.Lp (fun L N O P=>W.un N fun Q S=>W.ah (aq TE .lss 3 Q K) fun T=>aW T
(W.ah (ai TE 45 J Q) fun U=>W.ah (ag TE O 98 U) fun V=>W.bW (M.push O (.cells [(.int .i64 0),(.int .i64 0)] 98 none)) fun X=>W.aK (aw TE X 98 (ptrTo O.n) V) fun Y Z=>W.ah (ae TE 98 (ptrTo r.n) 0) fun a0=>W.ah (ag TE Y 3 a0) fun a1=>W.ah (ae TE 98 (ptrTo O.n) 0) fun a2=>W.ah (ag TE Y 3 a2) fun a3=>W.aK (an TE Y .min [3,3] [a1,a3]) fun a4 _=>W.ah (ae TE 98 (ptrTo r.n) 1) fun a5=>W.ah (ag TE Y 3 a5) fun a6=>W.ah (ae TE 98 (ptrTo O.n) 1) fun a7=>W.ah (ag TE Y 3 a7) fun a8=>W.aK (an TE Y .min [3,3] [a6,a8]) fun a9 _=>W.ah (aO TE 98 [(0,a4),(1,a9)]) fun b0=>W.ah (ae TE 98 (ptrTo C.n) 0) fun b1=>W.ah (ag TE Y 3 b1) fun b2=>W.ah (ae TE 98 (ptrTo O.n) 0) fun b3=>W.ah (ag TE Y 3 b3) fun b4=>W.aK (an TE Y .max [3,3] [b2,b4]) fun b5 _=>W.ah (ae TE 98 (ptrTo C.n) 1) fun b6=>W.ah (ag TE Y 3 b6) fun b7=>W.ah (ae TE 98 (ptrTo O.n) 1) fun b8=>W.ah (ag TE Y 3 b8) fun b9=>W.aK (an TE Y .max [3,3] [b7,b9]) fun c0 _=>W.ah (aO TE 98 [(0,b5),(1,c0)]) fun c1=>W.aK (aw TE Y 98 (ptrTo r.n) b0) fun c2 c3=>((M.n Y<=c3)\/(fq (some (.v b1)) c3/\(fq (some (.v b3)) c3/\(fq (some (.v b6)) c3/\(fq (some (.v b8)) c3/\True)))))/\(W.aK (aw TE c2 98 (ptrTo C.n) c1) fun c4 c5=>W.ah (aq TE .add 3 Q (.int .i64 1)) fun c6=>L [c6] c4 (min (min (min P Z) c3) c5)))
(W.ah (ae TE 98 (ptrTo r.n) 1) fun c7=>W.ah (ag TE O 3 c7) fun c8=>W.Lp (fun c9 d0 d1 d2=>W.un d0 fun d3 d4=>W.ah (ae TE 98 (ptrTo C.n) 1) fun d5=>W.ah (ag TE d1 3 d5) fun d6=>W.ah (aq TE .geq 3 d3 d6) fun d7=>aW d7
(W.ah (aq TE .add 3 k (.int .i64 1)) fun d8=>g [d8] d1 d2)
(W.ah (ae TE 98 (ptrTo r.n) 0) fun d9=>W.ah (ag TE d1 3 d9) fun g0=>W.Lp (fun g1 g2 g3 g4=>W.un g2 fun g5 g6=>W.ah (ae TE 98 (ptrTo C.n) 0) fun g7=>W.ah (ag TE g3 3 g7) fun g8=>W.ah (aq TE .lss 3 g5 g8) fun g9=>aW g9
(W.ah (aO TE 98 [(0,g5),(1,d3)]) fun h0=>W.bW (M.push g3 (.cells [(.int .i64 0),(.int .i64 0)] 98 none)) fun h1=>W.aK (aw TE h1 98 (ptrTo g3.n) h0) fun h2 h3=>W.ah (ae TE 87 (ptrTo i.n) 3) fun h4=>W.ah (ag TE h2 45 h4) fun h5=>W.bz (.func 119) [h5,g5,d3] h2 fun h6 h7 h8=>W.ah (aq TE .geq 3 h6 (.int .i64 0)) fun h9=>aW h9
(W.ah (ag TE h7 98 (ptrTo g3.n)) fun i0=>W.ah (ag TE h7 87 (ptrTo i.n)) fun i1=>W.aK (az TE h7 29 1 [(0,i1)]) fun i2 i3=>W.aK (dF TE (M.wl i3 i3.n) 133 (.map (some a.n)) i0) fun i4 i5=>W.ah (cj i4 0) fun i6=>W.aK (an TE (M.wl i5 i5.n) .append [29,29] [i6,i2]) fun i7 i8=>W.ah (cj i4 1) fun i9=>W.ah (cD (M.wl i8 i8.n) (.map (some a.n)) i9 i7) fun j0=>W.ah (aq TE .add 3 g5 (.int .i64 1)) fun j1=>g1 [j1] j0 (min (min (min (min (min g4 h3) h8) (M.low i5)) (M.low i8)) (M.low j0)))
(W.ah (aq TE .add 3 g5 (.int .i64 1)) fun j2=>g1 [j2] h7 (min (min g4 h3) h8)))
(W.ah (aq TE .add 3 d3 (.int .i64 1)) fun j3=>c9 [j3] g3 g4)) [g0] d1 d2)) [c8] O P)) [(.int .i64 0)] G (min (min (min j s) F) H)))
(R [(.map (some a.n))] i j)) [(.int .i64 0)] b m.n):=by kernel_rfl
set_option maxRecDepth 100000 in
theorem YO{W:Words}{x0 x1:Value}{m:M}{R:List Value->M->Nat->Prop}:dt TE W Tryz.f60 [x0,x1] m R=
(W.bW (M.push m (.cells (cells x0) 31 none)) fun a=>W.bW (M.push a (.cells (cells x1) 4 none)) fun b=>W.bW (M.push b (.cells [(.int .i64 0),(.int .i64 0),(.slice none 0 0)] 27 none)) fun c=>W.ah (ag TE c 31 (ptrTo m.n)) fun d=>W.bz (.func 67) [d] c fun f g h=>W.bW (M.push g (.cells [(.map none)] 133 none)) fun i=>W.aK (aw TE i 133 (ptrTo g.n) f) fun j k=>W.bz (.func 68) [(.int .i64 40),(.int .i64 40),(.func (.func 130) #[] #[(ptrTo a.n),(ptrTo g.n)])] j fun l n o=>W.aK (aw TE n 27 (ptrTo b.n) l) fun p q=>ah (ag TE p 27 (ptrTo b.n)) fun r=>R [r] p (min (min (min (min m.n h) k) o) q)):=by kernel_rfl
set_option maxRecDepth 100000 in
theorem Rn{W:Words}{x0 x1 x2 x3:Value}{m:M}{R:List Value->M->Nat->Prop}:dt TE W Tryz.f130 [x0,x1,x2,x3] m R=
(W.ah (ag TE m 4 x2) fun a=>aW a
(W.ah (ag TE m 133 x3) fun b=>W.ah (aq TE .sub 3 (.int .i64 39) x0) fun c=>W.ah (aO TE 98 [(0,c),(1,x1)]) fun d=>W.ah (dL TE m 133 b d false) fun f=>W.bz (.func 132) [f,(.func (.func 133) #[] #[])] m fun g h i=>W.ah (cj g 0) fun j=>W.ah (cj g 1) fun k=>W.bz (.func 131) [j,k] h fun l n o=>R [l] n (min (min m.n i) o))
(W.ah (ag TE m 133 x3) fun p=>W.ah (aO TE 98 [(0,x0),(1,x1)]) fun q=>W.ah (dL TE m 133 p q false) fun r=>W.bz (.func 132) [r,(.func (.func 134) #[] #[])] m fun s t u=>W.ah (cj s 0) fun v=>W.ah (cj s 1) fun w=>W.bz (.func 131) [v,w] t fun y z A=>R [y] z (min (min m.n u) A))):=by kernel_rfl
end Go.Proofs.YtmdfgncoekfgdaaGreatDoor
namespace Go.Proofs.YtmdfgncoekfgdaaGreatDoor
open Go Go.D
variable {X:aF} {m:M}
structure Un where
 id:Int
 kind:Int
 tm:Int
 shape:List Pl
 back:Int
 front:Int
abbrev Un.c(u:Un)(w:Value):List Value:=[.int .i64 u.id,.int .i64 u.kind,.int .i64 u.tm,w,.int .i64 u.back,.int .i64 u.front]
instance:aL Un where
 ty:=87
 sz:=6
 agg:=true
 fR:=[98]
 rep m u cs:=∃w,cs=u.c w/\Sl m u.shape w
 pos:=by decide
 one:=by intro h;cases h
 len:=by rintro _ _ _ ⟨w,rfl,_⟩;rfl
 nB:=by rintro _ _ _ ⟨w,rfl,h⟩;show(true && (true && (true && (one w && (true && (true && true))))))=true;rw[h.one];rfl
 bt:=by
  rintro m m' u cs ⟨w,rfl,h⟩ hk
  exact⟨w,rfl,h.bt fun b c t g hb ht=>hk b c t g hb (by simpa[aL.ty,aL.fR]using ht)⟩
theorem lG:uF TE 29 87 Un:=⟨af.t29,af.t87,by kernel_rfl,⟨_,rfl⟩,rfl,by kernel_rfl,rfl,rfl⟩
abbrev Un.v(u:Un)(w:Value):Value:=.agg (u.c w).toArray
abbrev Un.zc:List Value:=[.int .i64 0,.int .i64 0,.int .i64 0,.slice none 0 0,.int .i64 0,.int .i64 0]
theorem _root_.Go.D.Sl.Pd{l:List Un}{v:Value}(h:Sl m l v){i:Nat}{u:Un}(hi:l[i]?=some u){k:IntKind}:∃a w,ai TE 29 v (.int k i)=some a/\ag TE m 87 a=some (u.v w)/\Sl m u.shape w:=by
 obtain⟨a,cs,h1,h2,w,rfl,h3⟩:=h.index lG (k:=k) hi
 exact⟨a,w,h1,h2,h3⟩
theorem cU{b:Nat}{u:Un}{w:Value}{e:TypeId}{g:Option Nat}(h:m.get b=.cells (u.c w) e g):ag TE m 87 (.pointer (some ⟨b,0,none⟩))=some (u.v w):=by
 rw[BO,aE h (by simp)];rfl
theorem Un.ky{u:Un}{w:Value}(hw:one w=true):(u.c w).all one=true:=by show(true && (true && (true && (one w && (true && (true && true))))))=true;rw[hw];rfl
def bQ(bf:Un->Un->Bool):List Un->Option Un->Option Un
 |[],o=>o
 |x::l,none=>bQ bf l (some x)
 |x::l,some b=>bQ bf l (some (if bf x b then x else b))
theorem ik(bf:Un->Un->Bool)(x:Un):∀(l:List Un) (o:Option Un),bQ bf (l++ [x]) o=match bQ bf l o with |none=>some x |some b=>some (if bf x b then x else b)
 |[],none=>rfl
 |[],some b=>rfl
 |y::l,none=>ik bf x l _
 |y::l,some b=>ik bf x l _
def JW(m:M)(o:Option Un)(v:Value):Prop:=match o with |some u=>∃w,v=u.v w/\Sl m u.shape w |none=>v=.agg Un.zc.toArray
def EA(m:M)(b:Nat)(o:Option Un):Prop:=match o with |some u=>∃w,m.get b=.cells (u.c w) 87 none/\Sl m u.shape w |none=>m.get b=.cells Un.zc 87 none
theorem EA.load{b:Nat}{o:Option Un}(h:EA m b o):∃v,ag TE m 87 (.pointer (some ⟨b,0,none⟩))=some v/\JW m o v/\(cells v).length=6/\(cells v).all one=true/\m.get b=.cells (cells v) 87 none:=by
 cases o with
 |none=>
  have h:m.get b=.cells Un.zc 87 none:=h
  refine⟨.agg Un.zc.toArray,?_,rfl,rfl,rfl,h⟩
  rw[BO,aE h (by simp)];rfl
 |some u=>
  obtain⟨w,h,hs⟩:=h
  exact⟨u.v w,cU h,⟨w,rfl,hs⟩,rfl,Un.ky hs.one,h⟩
theorem EA.aB{b:Nat}{o:Option Un}{m':M}(h:EA m b o)(hx:Ext m m'):EA m' b o:=by
 cases o with
 |none=>exact hx.cells h
 |some u=>
  obtain⟨w,h,hs⟩:=h
  exact⟨w,hx.cells h,hs.aB hx⟩
theorem HL(hX:cW X){l:List Un}{v:Value}{g:Fn}{fi ca:Array Value}(bf:Un->Un->Bool)(hb:l.length < 4611686018427387904)(hl:Sl m l v)
  (hs:∀a b wa wb m1,Ext m m1->C X g (fi.toList++([a.v wa,b.v wb]++ca.toList)) m1 m1.n (.bool (bf a b)) m1):
  ∃r m',C X (.func 132) [v,.func g fi ca] m m.n (.tuple #[r,.bool (bQ bf l none).isSome]) m'/\Ext m m'/\JW m' (bQ bf l none) r:=by
 have key:=Cl.gen (E:=TE) (X:=X) (f:=132) (args:=[v,.func g fi ca]) (m:=m) (R:=fun v' m' b=>b=m.n/\Ext m m'/\∃r,v'=.tuple #[r,.bool (bQ bf l none).isSome]/\JW m' (bQ bf l none) r) (hX.no _ rfl) Mw rfl ?_
 ·obtain⟨v',m',b,hc,rfl,hx,r,rfl,hr⟩:=key
  exact⟨r,m',hc,hx,hr⟩
 rw[Rl];dsimp only[aI]
 refine au fun m1 hn1 hg1 hk1=>?_
 have hx1:Ext m m1:=⟨by omega,fun b hb=>hk1 b hb⟩
 rw[(hl.aB hx1).len lG,ar]
 simp only[ptrTo]
 refine Lp.intro (γ:=Nat) (fun i=>l.length-i) (fun i vs m2 lo=>vs=[.bool (bQ bf (l.take i) none).isSome,.int .i64 i]/\i<=l.length/\Ext m m2/\m.n < m2.n/\m.n<=lo/\EA m2 m.n (bQ bf (l.take i) none)) 0 ⟨rfl,Nat.zero_le _,hx1,by omega,by omega,hg1⟩ ?_
 rintro i vs m2 lo2 ⟨rfl,hi,hx2,hn2,hlo,hopt⟩
 simp only[aA,aH,aa,aj]
 refine ak (fun hlt=>?_) (fun hge=>?_)
 ·have hlt:i < l.length:=by simpa using hlt
  obtain⟨u,hu⟩:∃u,l[i]?=some u:=⟨_,List.getElem?_eq_getElem hlt⟩
  obtain⟨q,w,e1,e2,hw⟩:=(hl.aB hx2).Pd (k:=.i64) hu
  rw[e1,aa,e2,aa]
  refine au fun m3 hn3 hg3 hk3=>?_
  refine aD jl hg3 rfl rfl (Un.ky hw.one) fun m4 hn4 hg4 hk4=>?_
  have hx24:Ext m2 m4:=⟨by omega,fun b hb=>by rw[hk4 b (by omega),hk3 b hb]⟩
  have hx4:Ext m m4:=hx2.trans hx24
  have hopt4:=hopt.aB hx24
  have hw4:=hw.aB hx24
  have hstep:bQ bf (l.take (i+1)) none=match bQ bf (l.take i) none with |none=>some u |some b=>some (if bf u b then u else b):=by
   rw[List.take_add_one,hu];exact ik bf u _ _
  refine bY (fun vs m5 lo=>m4=m5/\m.n<=lo/\vs=[.bool (match bQ bf (l.take i) none with |none=>true |some b=>bf u b)]) (fun R hR=>?_) ?_
  ·cases ho:bQ bf (l.take i) none with
   |none=>
    simp only[Option.isSome_none,aX,aa,aj,Bool.not_false,bJ]
    exact hR _ _ _ ⟨rfl,by omega,by rw[ho]⟩
   |some b0=>
    simp only[Option.isSome_some,aX,aa,aj,Bool.not_true,aM]
    rw[ho]at hopt4
    obtain⟨w0,hb0,hw0⟩:=hopt4
    rw[cU hg4,aa,cU hb0,aa,bU]
    refine aC (hs u b0 w w0 m4 hx4) ?_
    exact hR _ _ _ ⟨rfl,by have:=hx4.n;omega,by rw[ho]⟩
  ·rintro _ _ lo5 ⟨rfl,hlo5,rfl⟩
   rw[aA,aj]
   refine ak (fun ht=>?_) (fun hf=>?_)
   ·rw[cU hg4,aa]
    obtain⟨v0,_,_,hl6,h16,hg6⟩:=hopt4.load
    refine aD jl hg6 rfl (by rw[hl6];rfl) (Un.ky hw.one) fun m6 hn6 hgg6 hk6=>?_
    simp only[aG,aa]
    rw[wrap64 (by omega) (by omega)]
    have hnew:bQ bf (l.take (i+1)) none=some u:=by
     rw[hstep]
     cases ho:bQ bf (l.take i) none with
     |none=>rfl
     |some b0=>rw[ho]at ht;dsimp only at ht⊢;rw[if_pos ht]
    have hx6:Ext m m6:=⟨by have:=hx4.n;omega,fun b hb=>by rw[hk6 b (by omega),hx4.get b hb]⟩
    refine⟨i+1,by omega,by rw[hnew];simp,by omega,hx6,by omega,by omega,?_⟩
    rw[hnew]
    refine⟨w,hgg6,(hw4.bt fun b c t g hb htt=>?_)⟩
    by_cases hbm:b=m.n
    ·subst hbm
     rw[hg6]at hb
     cases hb
     simp[aL.ty,aL.fR]at htt
    ·rw[hk6 b hbm,hb]
   ·simp only[aG,aa]
    rw[wrap64 (by omega) (by omega)]
    have hnew:bQ bf (l.take (i+1)) none=bQ bf (l.take i) none:=by
     rw[hstep]
     cases ho:bQ bf (l.take i) none with
     |none=>rw[ho]at hf;cases hf
     |some b0=>rw[ho]at hf;dsimp only at hf⊢;rw[if_neg (by rw[hf];simp)]
    exact⟨i+1,by omega,by rw[hnew];simp,by omega,hx4,by omega,hlo5,by rw[hnew];exact hopt4⟩
 ·have hi':i=l.length:=by
   have:¬(i:Int)< (l.length:Int):=by simpa using hge
   omega
  rw[hi',List.take_length]at hopt⊢
  obtain⟨v0,e0,ho,hl6,h16,hg6⟩:=hopt.load
  rw[e0,aa]
  refine aD jl hg6 (by rw[hl6];rfl) rfl h16 fun m6 hn6 hgg6 hk6=>?_
  have hsame:∀b,m6.get b=m2.get b:=fun b=>by
   by_cases hbm:b=m.n
   ·subst hbm;rw[hgg6,hg6]
   ·exact hk6 b hbm
  have hx26:Ext m2 m6:=⟨by omega,fun b _=>hsame b⟩
  obtain⟨v7,e7,ho7,_⟩:=(hopt.aB hx26).load
  rw[e7,aa]
  cases hfl:bD (aR [v7,.bool (bQ bf l none).isSome])with
  |false=>exact .inr ⟨.inl rfl,by omega,hx2.trans hx26,v7,rfl,ho7⟩
  |true=>
   refine .inl ⟨rfl,by omega,by first |rfl |trivial,.refl,v7,rfl,?_⟩
   cases hfo:bQ bf l none with
   |none=>rw[hfo]at ho7;exact ho7
   |some u=>
    rw[hfo]at ho7 hfl
    obtain⟨w,rfl,hw⟩:=ho7
    refine⟨w,rfl,?_⟩
    rcases hw with h |⟨b,o,c,bc,g,rfl,_⟩
    ·exact .inl h
    ·cases hfl
end Go.Proofs.YtmdfgncoekfgdaaGreatDoor
namespace Go.Proofs.YtmdfgncoekfgdaaGreatDoor
open Go Go.D
variable {X:aF} {m:M}
def GR(o:Option Un):Int:=match o with |some u=>u.id |none=> -1
theorem N4(hX:cW X){o:Option Un}{v:Value}(h:JW m o v):C X (.func 131) [v,.bool o.isSome] m m.n (.int .i64 (GR o)) m:=by
 refine Cl.flat (hX.no _ rfl) Mx rfl rfl ?_
 rw[Rm];dsimp only[aI]
 refine au fun m1 hn1 hg1 hk1=>?_
 cases o with
 |none=>
  simp only[Option.isSome_none,aX,aa,aj,Bool.not_false,bJ]
  exact⟨rfl,Nat.le_refl _⟩
 |some u=>
  obtain⟨w,rfl,hw⟩:=h
  simp only[aP]at hg1
  simp only[Option.isSome_some,aX,aa,aj,Bool.not_true,aM,aa,ar,bU,aj,bJ,aM,cK,aH,ck,bX,bE,bI,aX,ptrTo,di,dj,Nat.zero_add,Nat.reduceAdd,List.getElem?_cons_zero,List.getElem?_cons_succ,List.drop_zero,List.drop_succ_cons,List.take_succ_cons,List.take_zero,Option.map_some,aP,dI,dm,cP,dG,dH,dk,ct,bu,av hg1]
  exact⟨rfl,Nat.le_refl _⟩
theorem Ir(hX:cW X)(a b:Un)(wa wb:Value):C X (.func 133) [a.v wa,b.v wb] m m.n (.bool (decide (a.back < b.back))) m:=by
 refine Cl.flat (hX.no _ rfl) Mv rfl rfl ?_
 rw[Rk];dsimp only[aI]
 refine au fun m1 hn1 hg1 hk1=>?_
 refine au fun m2 hn2 hg2 hk2=>?_
 have g1:=(hk2 m.n (by omega)).trans hg1
 simp only[aP]at g1 hg2
 simp only[aa,ar,bU,aj,bJ,aM,cK,aH,ck,bX,bE,bI,aX,ptrTo,di,dj,Nat.zero_add,Nat.reduceAdd,List.getElem?_cons_zero,List.getElem?_cons_succ,List.drop_zero,List.drop_succ_cons,List.take_succ_cons,List.take_zero,Option.map_some,aP,dI,dm,cP,dG,dH,dk,cI,bu,av g1,av hg2]
 exact⟨rfl,Nat.le_refl _⟩
theorem DG(hX:cW X)(a b:Un)(wa wb:Value):C X (.func 134) [a.v wa,b.v wb] m m.n (.bool (decide (b.front < a.front))) m:=by
 refine Cl.flat (hX.no _ rfl) Mu rfl rfl ?_
 rw[Rj];dsimp only[aI]
 refine au fun m1 hn1 hg1 hk1=>?_
 refine au fun m2 hn2 hg2 hk2=>?_
 have g1:=(hk2 m.n (by omega)).trans hg1
 simp only[aP]at g1 hg2
 simp only[aa,ar,bU,aj,bJ,aM,cK,aH,ck,bX,bE,bI,aX,ptrTo,di,dj,Nat.zero_add,Nat.reduceAdd,List.getElem?_cons_zero,List.getElem?_cons_succ,List.drop_zero,List.drop_succ_cons,List.take_succ_cons,List.take_zero,Option.map_some,aP,dI,dm,cP,dG,dH,dk,cH,bu,av g1,av hg2]
 exact⟨rfl,Nat.le_refl _⟩
theorem vd{n:Int}:az TE m 25 1 [(0,.int .i64 n)]=some (.slice (some ⟨m.n,0,none⟩) 1 1,m.push (.cells [.int .i64 n] 3 none)):=by kernel_rfl
theorem nj{n:Int}{b:Nat}{g:Option Nat}(h:m.get b=.cells [.int .i64 n] 3 g):Sl m [n] (.slice (some ⟨b,0,none⟩) 1 1):=
 .inr ⟨b,0,1,_,g,rfl,h,Nat.le_refl _,fun i x hi=>by
  match i with
  |0=>cases hi;rfl
  |i+1=>cases hi⟩
theorem _root_.Go.D.Ow.Ci{n1:Nat}{l:List Int}{v:Value}{n:Int}{P:Value->M->Prop}(h:Ow n1 m l v)(hn:n1<=m.n)(hs:l.length < 268435456)
  (hP:∀v1 m1,Ow n1 m1 (l++ [n]) v1->uG n1 m m1->n1<=m1.low->m.n<=m1.n->P v1 m1):
  aK (az TE m 25 1 [(0,.int .i64 n)]) fun a m1=>aK (an TE (m1.wl m1.n) .append [25,25] [v,a]) P:=by
 rw[vd,ar]
 have hx:Ext m (m.push (.cells [.int .i64 n] 3 none)):=Ext.refl.push
 have hpn:(m.push (.cells [.int .i64 n] 3 none)).n=m.n+1:=rfl
 obtain⟨v1,m1,e1,ho,hf,hl,_⟩:=(h.aB hx).append oZ (by simp[aL.ty,aL.fR]) (nj (m:=m.push (.cells [.int .i64 n] 3 none)) M.aN) (by omega) (by simp;omega)
 rw[e1,ar]
 exact hP v1 m1 ho ((hx.fr hn).trans hf) hl (by have:=hf.n;omega)
def iM(g:Nat->Nat->Int)(w j:Nat):List Int:=(List.range w).map fun i=>g i j
def cn(g:Nat->Nat->Int)(w h:Nat):List Int:=(List.range h).flatMap (iM g w)
theorem gF{g:Nat->Nat->Int}{i j:Nat}:iM g (i+1) j=iM g i j++ [g i j]:=by simp[iM,List.range_succ]
theorem gK{g:Nat->Nat->Int}{w j:Nat}:cn g w (j+1)=cn g w j++iM g w j:=by simp[cn,List.range_succ]
theorem jq{g:Nat->Nat->Int}{w j:Nat}:(iM g w j).length=w:=by simp[iM]
theorem cy{g:Nat->Nat->Int}{w:Nat}:∀h,(cn g w h).length=h*w
 |0=>by simp[cn]
 |h+1=>by rw[gK,List.length_append,cy h,jq,Nat.add_mul,Nat.one_mul]
abbrev cF(w h:Int)(v:Value):Value:=.agg #[.int .i64 w,.int .i64 h,v]
theorem vu(hX:cW X){w h:Nat}(hw:w<=1000)(hh:h<=1000){g:Fn}{fi ca:Array Value}(gz:Nat->Nat->Int)
  (hg:∀i j m1,i < w->j < h->Ext m m1->C X g (fi.toList++([.int .i64 i,.int .i64 j]++ca.toList)) m1 m1.n (.int .i64 (gz i j)) m1) (hpos:0 < w/\0 < h):
  ∃v m',C X (.func 68) [.int .i64 w,.int .i64 h,.func g fi ca] m m.n (cF w h v) m'/\Ext m m'/\Ow m.n m' (cn gz w h) v:=by
 have key:=Cl.heap (E:=TE) (X:=X) (f:=68) (args:=[.int .i64 w,.int .i64 h,.func g fi ca]) (m:=m) (R:=fun v' m' b=>b=m.n/\Ext m m'/\∃v,v'=cF w h v/\Ow m.n m' (cn gz w h) v) (hX.no _ rfl) Oy rfl ?_
 ·obtain⟨v',m',b,hc,rfl,hx,v,rfl,hr⟩:=key
  exact⟨v,m',hc,hx,hr⟩
 rw[YG];dsimp only[aI]
 refine au fun m1 hn1 hg1 hk1=>?_
 rw[eC rfl rfl,aa]
 refine au fun m3 hn3 hg3 hk3=>?_
 simp only[ptrTo]
 refine aD dw hg3 rfl rfl rfl fun m4 hn4 hg4 hk4=>?_
 have hx4:Ext m m4:=⟨by omega,fun b hb=>by rw[hk4 b (by omega),hk3 b (by omega),hk1 b hb]⟩
 have g04:m4.get m.n=.cells [.int .i64 0,.int .i64 0,.slice none 0 0] 27 none:=by rw[hk4 _ (by omega),hk3 _ (by omega),hg1]
 refine Lp.intro (γ:=Nat) (fun j=>h-j) (fun j vs m8 lo=>vs=[.int .i64 j]/\j<=h/\Ext m m8/\m.n+2<=m8.n/\m.n<=lo/\(∃v,m8.get m1.n=.cells [.int .i64 w,.int .i64 h,v] 27 none/\Ow (m.n+2) m8 (cn gz w j) v)/\∃cs,m8.get m.n=.cells cs 27 none/\cs.length=3) 0
  ⟨rfl,Nat.zero_le _,hx4,by omega,by omega,⟨_,hg4,Ow.nil⟩,_,g04,rfl⟩ ?_
 rintro j vs m8 lo8 ⟨rfl,hj,hx8,hn8,hlo8,⟨v8,hb8,ho8⟩,cs8,hz8,hcl8⟩
 simp only[aA,aH,aa,aj]
 refine ak (fun hlt=>?_) (fun hge=>?_)
 ·have hlt:j < h:=by simpa using hlt
  refine Lp.intro (γ:=Nat) (fun i=>w-i) (fun i vs m9 lo=>vs=[.int .i64 i]/\i<=w/\Ext m m9/\m.n+2<=m9.n/\m.n<=lo/\(∃v,m9.get m1.n=.cells [.int .i64 w,.int .i64 h,v] 27 none/\Ow (m.n+2) m9 (cn gz w j++iM gz i j) v)/\∃cs,m9.get m.n=.cells cs 27 none/\cs.length=3) 0
   ⟨rfl,Nat.zero_le _,hx8,hn8,hlo8,⟨v8,hb8,by simpa[iM]using ho8⟩,cs8,hz8,hcl8⟩ ?_
  rintro i vs m9 lo9 ⟨rfl,hi,hx9,hn9,hlo9,⟨v9,hb9,ho9⟩,cs9,hz9,hcl9⟩
  simp only[aA,aH,aa,aj]
  refine ak (fun hlt2=>?_) (fun hge2=>?_)
  ·have hlt2:i < w:=by simpa using hlt2
   rw[bh,aa,ez,av hb9]
   simp only[Nat.zero_add,List.getElem?_cons_zero,List.getElem?_cons_succ,aa,bU]
   refine aC (hg i j m9 hlt2 hlt hx9) ⟨Nat.le_refl _,?_⟩
   have hsz:(cn gz w j++iM gz i j).length < 268435456:=by
    rw[List.length_append,cy,jq]
    have:j*w<=1000*1000:=Nat.mul_le_mul (by omega) hw
    omega
   refine ho9.Ci hn9 hsz fun v10 m10 ho10 hf10 hlow hn10=>?_
   have hb10:m10.get m1.n=.cells [.int .i64 w,.int .i64 h,v9] 27 none:=by rw[hf10.get _ (by omega),hb9]
   have hz10:m10.get m.n=.cells cs9 27 none:=by rw[hf10.get _ (by omega),hz9]
   have hcv:cells v10=[v10]:=ho10.sl.cells
   refine bM oe hb10 (by rw[hcv];rfl) (by rw[hcv];exact Nat.le_refl _) (by rw[hcv];simp[ho10.sl.one]) fun m11 hn11 hg11 hk11=>?_
   simp only[aG,aa]
   rw[wrap64 (by omega) (by omega)]
   rw[hcv]at hg11
   refine⟨i+1,by omega,by simp,by omega,⟨by have:=hx9.n;omega,fun b hb=>by rw[hk11 b (by omega),hf10.get b (by omega),hx9.get b hb]⟩,by omega,by omega,⟨v10,hg11,?_⟩,cs9,by rw[hk11 _ (by omega),hz10],hcl9⟩
   rw[gF,<-List.append_assoc]
   refine ho10.bt fun b c t g hb ht=>?_
   by_cases hbm:b=m1.n
   ·subst hbm
    rw[hb10]at hb
    cases hb
    simp[aL.ty,aL.fR]at ht
   ·rw[hk11 b hbm,hb]
  ·have hi':i=w:=by
    have:¬(i:Int)< (w:Int):=by simpa using hge2
    omega
   simp only[aG,aa]
   rw[wrap64 (by omega) (by omega)]
   exact⟨j+1,by omega,by simp,by omega,hx9,hn9,hlo9,⟨v9,hb9,by rw[gK];rw[hi']at ho9;exact ho9⟩,cs9,hz9,hcl9⟩
 ·have hj':j=h:=by
   have:¬(j:Int)< (h:Int):=by simpa using hge
   omega
  subst hj'
  have e:ag TE m8 27 (.pointer (some ⟨m1.n,0,none⟩))=some (cF w j v8):=by rw[bO,aE hb8 (by simp)];rfl
  rw[e,aa]
  have hone:one v8=true:=ho8.sl.one
  refine aD dw hz8 rfl (by rw[hcl8];rfl) (by show(true && (true && (one v8 && true)))=true;rw[hone];rfl) fun m12 hn12 hg12 hk12=>?_
  have e2:ag TE m12 27 (.pointer (some ⟨m.n,0,none⟩))=some (cF w j v8):=by rw[bO,aE hg12 (by simp[aP])];rfl
  rw[e2,aa]
  have ho12:Ow (m.n+2) m12 (cn gz w j) v8:=ho8.bt fun b c t g hb ht=>by
   by_cases hbm:b=m.n
   ·subst hbm
    rw[hz8]at hb
    cases hb
    simp[aL.ty,aL.fR]at ht
   ·rw[hk12 b hbm,hb]
  have hfl:bD (aR [cF w j v8])=false:=by
   have hne:cn gz w j≠ []:=fun e=>by
    have:=congrArg List.length e
    rw[cy]at this
    have:=Nat.mul_pos hpos.2 hpos.1
    simp at*
    omega
   rcases ho12 with⟨_,h0⟩ |⟨b,cs,rfl,_⟩
   ·exact absurd h0 hne
   ·rfl
  exact⟨.inl hfl,by omega,⟨by have:=hx8.n;omega,fun b hb=>by rw[hk12 b (by omega),hx8.get b hb]⟩,v8,rfl,ho12.mono (by omega)⟩
end Go.Proofs.YtmdfgncoekfgdaaGreatDoor
namespace Go.Proofs.YtmdfgncoekfgdaaGreatDoor
open Go Go.D
set_option maxRecDepth 100000 in
theorem Y1{W:Words}{x0:Value}{m:M}{R:List Value->M->Nat->Prop}:dt TE W Tryz.f25 [x0] m R=
(W.bW (M.push m (.cells (cells x0) 27 none)) fun a=>W.jn (fun b=>W.ah (ae TE 27 (ptrTo m.n) 0) fun c=>W.ah (ag TE a 3 c) fun d=>W.bz (.func 66) [d,(.int .i64 1),(.int .i64 40)] a fun f g h=>aW f
(W.ah (ae TE 27 (ptrTo m.n) 1) fun i=>W.ah (ag TE g 3 i) fun j=>W.bz (.func 66) [j,(.int .i64 1),(.int .i64 40)] g fun k l n=>aW k
(W.ah (ae TE 27 (ptrTo m.n) 2) fun o=>W.ah (ag TE l 25 o) fun p=>W.aK (an TE l .len [25] [p]) fun q _=>W.ah (ae TE 27 (ptrTo m.n) 0) fun r=>W.ah (ag TE l 3 r) fun s=>W.ah (ae TE 27 (ptrTo m.n) 1) fun t=>W.ah (ag TE l 3 t) fun u=>W.ah (aq TE .mul 3 s u) fun v=>W.ah (aq TE .eql 3 q v) fun w=>aW w
(W.ah (ae TE 27 (ptrTo m.n) 2) fun y=>W.ah (ag TE l 25 y) fun z=>W.bz (.func 82) [z,(.func (.func 81) #[] #[])] l fun A B C=>W.ah (fK .not A) fun D=>b [D] B (min (min (min m.n h) n) C))
(b [(.bool false)] l (min (min m.n h) n)))
(b [(.bool false)] l (min (min m.n h) n)))
(b [(.bool false)] g (min m.n h)))
(fun E F G=>W.un E fun H I=>R [H] F G)):=by kernel_rfl
set_option maxRecDepth 100000 in
theorem Yv{W:Words}{x0:Value}{m:M}{R:List Value->M->Nat->Prop}:dt TE W Tryz.f81 [x0] m R=
(W.bz (.func 66) [x0,(.int .i64 (-1)),(.int .i64 99)] m fun a b c=>W.ah (fK .not a) fun d=>R [d] b (min m.n c)):=by kernel_rfl
set_option maxRecDepth 100000 in
theorem YI{W:Words}{x0 x1 x2:Value}{m:M}{R:List Value->M->Nat->Prop}:dt TE W Tryz.f66 [x0,x1,x2] m R=
(W.jn (fun a=>W.ah (aq TE .leq 3 x1 x0) fun b=>aW b
(W.ah (aq TE .leq 3 x0 x2) fun c=>a [c] m m.n)
(a [(.bool false)] m m.n))
(fun d f g=>W.un d fun h i=>R [h] f g)):=by kernel_rfl
set_option maxRecDepth 100000 in
theorem Y6{W:Words}{x0 x1:Value}{m:M}{R:List Value->M->Nat->Prop}:dt TE W Tryz.f14 [x0,x1] m R=
(W.ah (aq TE .lss 3 x0 (.int .i64 0)) fun a=>aW a
(W.ah (aq TE .add 3 x0 (.int .i64 1)) fun b=>W.ah (fK .neg b) fun c=>W.ah (aq TE .rem 3 c x1) fun d=>R [d] m m.n)
(W.ah (aq TE .rem 3 x0 x1) fun f=>R [f] m m.n)):=by kernel_rfl
set_option maxRecDepth 100000 in
theorem YB{W:Words}{x0 x1:Value}{m:M}{R:List Value->M->Nat->Prop}:dt TE W Tryz.f73 [x0,x1] m R=
(W.ah (aq TE .lss 3 x0 (.int .i64 0)) fun a=>aW a
(W.ah (aq TE .add 3 x0 (.int .i64 1)) fun b=>W.ah (fK .neg b) fun c=>W.ah (aq TE .rem 3 c x1) fun d=>R [d] m m.n)
(W.ah (aq TE .rem 3 x0 x1) fun f=>R [f] m m.n)):=by kernel_rfl
set_option maxRecDepth 100000 in
theorem Yu{W:Words}{x0 x1:Value}{m:M}{R:List Value->M->Nat->Prop}:dt TE W Tryz.f82 [x0,x1] m R=
(W.bz (.func 143) [x0,x1] m fun a b c=>W.ah (aq TE .geq 3 a (.int .i64 0)) fun d=>R [d] b (min m.n c)):=by kernel_rfl
set_option maxRecDepth 100000 in
theorem Yt{W:Words}{x0 x1:Value}{m:M}{R:List Value->M->Nat->Prop}:dt TE W Tryz.f83 [x0,x1] m R=
(W.aK (an TE m .len [45] [x0]) fun a _=>W.aK (an TE m .len [45] [x1]) fun b _=>W.ah (aq TE .neq 3 a b) fun c=>aW c
(R [(.bool false)] m m.n)
(W.Lp (fun d f g h=>W.un f fun i j=>W.un j fun k l=>W.aK (an TE g .len [45] [x0]) fun n _=>W.ah (aq TE .lss 3 k n) fun o=>aW o
(W.ah (ai TE 45 x0 k) fun p=>W.ah (ag TE g 98 p) fun q=>W.ah (ai TE 45 x1 k) fun r=>W.ah (ag TE g 98 r) fun s=>W.ah (aq TE .neq 98 q s) fun t=>aW t
(R [(.bool false)] g h)
(W.ah (aq TE .add 3 k (.int .i64 1)) fun u=>d [i,u] g h))
(R [(.bool true)] g h)) [(.bool false),(.int .i64 0)] m m.n)):=by kernel_rfl
set_option maxRecDepth 100000 in
theorem YJ{W:Words}{x0 x1:Value}{m:M}{R:List Value->M->Nat->Prop}:dt TE W Tryz.f65 [x0,x1] m R=
(W.aK (an TE m .len [25] [x0]) fun a _=>W.aK (an TE m .len [25] [x1]) fun b _=>W.ah (aq TE .neq 3 a b) fun c=>aW c
(R [(.bool false)] m m.n)
(W.Lp (fun d f g h=>W.un f fun i j=>W.un j fun k l=>W.aK (an TE g .len [25] [x0]) fun n _=>W.ah (aq TE .lss 3 k n) fun o=>aW o
(W.ah (ai TE 25 x0 k) fun p=>W.ah (ag TE g 3 p) fun q=>W.ah (ai TE 25 x1 k) fun r=>W.ah (ag TE g 3 r) fun s=>W.ah (aq TE .neq 3 q s) fun t=>aW t
(R [(.bool false)] g h)
(W.ah (aq TE .add 3 k (.int .i64 1)) fun u=>d [i,u] g h))
(R [(.bool true)] g h)) [(.bool false),(.int .i64 0)] m m.n)):=by kernel_rfl
set_option maxRecDepth 100000 in
theorem Y7{W:Words}{x0 x1:Value}{m:M}{R:List Value->M->Nat->Prop}:dt TE W Tryz.f13 [x0,x1] m R=
(W.bW (M.push m (.cells (cells x0) 27 none)) fun a=>W.bW (M.push a (.cells (cells x1) 27 none)) fun b=>W.jn (fun c=>W.ah (ae TE 27 (ptrTo m.n) 0) fun d=>W.ah (ag TE b 3 d) fun f=>W.ah (ae TE 27 (ptrTo a.n) 0) fun g=>W.ah (ag TE b 3 g) fun h=>W.ah (aq TE .eql 3 f h) fun i=>aW i
(W.ah (ae TE 27 (ptrTo m.n) 1) fun j=>W.ah (ag TE b 3 j) fun k=>W.ah (ae TE 27 (ptrTo a.n) 1) fun l=>W.ah (ag TE b 3 l) fun n=>W.ah (aq TE .eql 3 k n) fun o=>aW o
(W.ah (ae TE 27 (ptrTo m.n) 2) fun p=>W.ah (ag TE b 25 p) fun q=>W.ah (ae TE 27 (ptrTo a.n) 2) fun r=>W.ah (ag TE b 25 r) fun s=>W.bz (.func 65) [q,s] b fun t u v=>c [t] u (min m.n v))
(c [(.bool false)] b m.n))
(c [(.bool false)] b m.n))
(fun w y z=>W.un w fun A B=>R [A] y z)):=by kernel_rfl
set_option maxRecDepth 100000 in
theorem YZ{W:Words}{x0 x1:Value}{m:M}{R:List Value->M->Nat->Prop}:dt TE W Tryz.f27 [x0,x1] m R=
(W.bz (.func 83) [x0,x1] m fun a b c=>R [a] b (min m.n c)):=by kernel_rfl
set_option maxRecDepth 100000 in
theorem Y3{W:Words}{x0 x1 x2:Value}{m:M}{R:List Value->M->Nat->Prop}:dt TE W Tryz.f19 [x0,x1,x2] m R=
(W.bW (M.push m (.cells [(.int .i64 0),(.int .i64 0),(.slice none 0 0)] 27 none)) fun a=>W.bz (.func 73) [x0,(.int .i64 12)] a fun b c d=>W.ah (aq TE .add 3 (.int .i64 1) b) fun f=>W.bz (.func 73) [x1,(.int .i64 12)] c fun g h i=>W.ah (aq TE .add 3 (.int .i64 1) g) fun j=>W.ah (aO TE 27 [(0,f),(1,j)]) fun k=>W.bW (M.push h (.cells [(.int .i64 0),(.int .i64 0),(.slice none 0 0)] 27 none)) fun l=>W.aK (aw TE l 27 (ptrTo h.n) k) fun n o=>W.Lp (fun p q r s=>W.un q fun t u=>W.ah (ae TE 27 (ptrTo h.n) 0) fun v=>W.ah (ag TE r 3 v) fun w=>W.ah (ae TE 27 (ptrTo h.n) 1) fun y=>W.ah (ag TE r 3 y) fun z=>W.ah (aq TE .mul 3 w z) fun A=>W.ah (aq TE .lss 3 t A) fun B=>aW B
(W.ah (aq TE .mul 3 (.int .i64 7) t) fun C=>W.aK (an TE r .len [25] [x2]) fun D _=>W.ah (aq TE .gtr 3 D (.int .i64 0)) fun E=>aW E
(W.aK (an TE r .len [25] [x2]) fun F _=>W.ah (aq TE .rem 3 t F) fun G=>W.ah (ai TE 25 x2 G) fun H=>W.ah (ag TE r 3 H) fun I=>W.ah (ae TE 27 (ptrTo h.n) 2) fun J=>W.ah (ag TE r 25 J) fun K=>W.bz (.func 73) [I,(.int .i64 101)] r fun L N O=>(M.n r<=O)/\(W.ah (aq TE .sub 3 L (.int .i64 1)) fun P=>W.aK (az TE N 25 1 [(0,P)]) fun Q S=>W.aK (an TE (M.wl S S.n) .append [25,25] [K,Q]) fun T U=>W.ah (ae TE 27 (ptrTo h.n) 2) fun V=>W.aK (aw TE U 25 V T) fun X Y=>W.ah (aq TE .add 3 t (.int .i64 1)) fun Z=>p [Z] X (min (min (min s O) (M.low U)) Y)))
(W.ah (ae TE 27 (ptrTo h.n) 2) fun a0=>W.ah (ag TE r 25 a0) fun a1=>W.bz (.func 73) [C,(.int .i64 101)] r fun a2 a3 a4=>(M.n r<=a4)/\(W.ah (aq TE .sub 3 a2 (.int .i64 1)) fun a5=>W.aK (az TE a3 25 1 [(0,a5)]) fun a6 a7=>W.aK (an TE (M.wl a7 a7.n) .append [25,25] [a1,a6]) fun a8 a9=>W.ah (ae TE 27 (ptrTo h.n) 2) fun b0=>W.aK (aw TE a9 25 b0 a8) fun b1 b2=>W.ah (aq TE .add 3 t (.int .i64 1)) fun b3=>p [b3] b1 (min (min (min s a4) (M.low a9)) b2))))
(W.ah (ag TE r 27 (ptrTo h.n)) fun b4=>W.aK (aw TE r 27 (ptrTo m.n) b4) fun b5 b6=>ah (ag TE b5 27 (ptrTo m.n)) fun b7=>R [b7] b5 (min s b6))) [(.int .i64 0)] n (min (min (min m.n d) i) o)):=by kernel_rfl
set_option maxRecDepth 100000 in
theorem VV{W:Words}{x0 x1:Value}{m:M}{R:List Value->M->Nat->Prop}:dt TE W Tryz.f21 [x0,x1] m R=
(W.bW (M.push m (.cells (cells x0) 27 none)) fun a=>W.bW (M.push a (.cells (cells x1) 27 none)) fun b=>W.jn (fun c=>W.ah (ag TE b 27 (ptrTo m.n)) fun d=>W.bz (.func 25) [d] b fun f g h=>W.ah (fK .not f) fun i=>aW i
(c [(.bool true)] g (min m.n h))
(W.ah (ag TE g 27 (ptrTo a.n)) fun j=>W.bz (.func 25) [j] g fun k l n=>W.ah (fK .not k) fun o=>aW o
(c [(.bool true)] l (min (min m.n h) n))
(W.ah (ae TE 27 (ptrTo m.n) 0) fun p=>W.ah (ag TE l 3 p) fun q=>W.ah (ae TE 27 (ptrTo a.n) 0) fun r=>W.ah (ag TE l 3 r) fun s=>W.ah (aq TE .neq 3 q s) fun t=>aW t
(c [(.bool true)] l (min (min m.n h) n))
(W.ah (ae TE 27 (ptrTo m.n) 1) fun u=>W.ah (ag TE l 3 u) fun v=>W.ah (ae TE 27 (ptrTo a.n) 1) fun w=>W.ah (ag TE l 3 w) fun y=>W.ah (aq TE .neq 3 v y) fun z=>c [z] l (min (min m.n h) n)))))
(fun A B C=>W.un A fun D E=>aW D
(R [(.slice none 0 0),(.int .i64 410)] B C)
(W.ah (ae TE 27 (ptrTo m.n) 2) fun F=>W.ah (ag TE B 25 F) fun G=>W.aK (an TE B .len [25] [G]) fun H _=>W.Lp (fun I J K L=>W.un J fun N O=>W.un O fun P Q=>W.ah (aq TE .lss 3 P H) fun S=>aW S
(W.ah (ai TE 25 G P) fun T=>W.ah (ag TE K 3 T) fun U=>W.ah (ae TE 27 (ptrTo a.n) 2) fun V=>W.ah (ag TE K 25 V) fun X=>W.ah (ai TE 25 X P) fun Y=>W.ah (ag TE K 3 Y) fun Z=>W.ah (aq TE .neq 3 U Z) fun a0=>aW a0
(W.ah (ae TE 27 (ptrTo m.n) 0) fun a1=>W.ah (ag TE K 3 a1) fun a2=>W.ah (aq TE .rem 3 P a2) fun a3=>W.ah (ae TE 27 (ptrTo m.n) 0) fun a4=>W.ah (ag TE K 3 a4) fun a5=>W.ah (aq TE .quo 3 P a5) fun a6=>W.ah (aO TE 98 [(0,a3),(1,a6)]) fun a7=>W.aK (az TE K 45 1 [(0,a7)]) fun a8 a9=>W.aK (an TE (M.wl a9 a9.n) .append [45,45] [N,a8]) fun b0 b1=>W.ah (aq TE .add 3 P (.int .i64 1)) fun b2=>I [b0,b2] b1 (min L (M.low b1)))
(W.ah (aq TE .add 3 P (.int .i64 1)) fun b3=>I [N,b3] K L))
(R [N,(.int .i64 0)] K L)) [(.slice none 0 0),(.int .i64 0)] B C))):=by kernel_rfl
end Go.Proofs.YtmdfgncoekfgdaaGreatDoor
namespace Go.Proofs.YtmdfgncoekfgdaaGreatDoor
open Go Go.D
variable {X:aF} {m:M}
def cM(c n:Int):Int:=if c < 0 then(-(c+1))%n else c%n
theorem fw{c n:Int}(hn:0 < n):0<=cM c n/\cM c n < n:=by
 unfold cM
 split
 ·exact⟨Int.emod_nonneg _ (by omega),Int.emod_lt_of_pos _ hn⟩
 ·exact⟨Int.emod_nonneg _ (by omega),Int.emod_lt_of_pos _ hn⟩
def fP(c:Int):Prop:= -9223372036854775808<=c/\c < 9223372036854775808
theorem kh{c n:Int}(hc:fP c)(hn:0 < n){P:Value->Prop}(h:P (.int .i64 (cM c n))):
  ah (aq TE .lss 3 (.int .i64 c) (.int .i64 0)) fun v1=>aW v1
   (ah (aq TE .add 3 (.int .i64 c) (.int .i64 1)) fun v2=>ah (fK .neg v2) fun v3=>ah (aq TE .rem 3 v3 (.int .i64 n)) fun v4=>P v4)
   (ah (aq TE .rem 3 (.int .i64 c) (.int .i64 n)) fun v5=>P v5):=by
 obtain⟨h1,h2⟩:=hc
 simp only[aH,aa,aj]
 refine ak (fun hl=>?_) (fun hl=>?_)
 ·have hl:c < 0:=by simpa using hl
  simp only[aG,aa]
  rw[wrap64 (by omega) (by omega),uL,aa,wrap64 (by omega) (by omega),mM (by omega),aa]
  have:cM c n=(0-(c+1)).tmod n:=by
   unfold cM
   rw[if_pos hl,Int.tmod_eq_emod_of_nonneg (by omega),Int.zero_sub]
  rw[<-this];exact h
 ·have hl:¬c < 0:=by simpa using hl
  rw[mM (by omega),aa]
  have:cM c n=c.tmod n:=by
   unfold cM
   rw[if_neg hl,Int.tmod_eq_emod_of_nonneg (by omega)]
  rw[<-this];exact h
theorem ki(hX:cW X){c n:Int}(hc:fP c)(hn:0 < n):C X (.func 73) [.int .i64 c,.int .i64 n] m m.n (.int .i64 (cM c n)) m:=by
 refine Cl.flat (hX.no _ rfl) Oq rfl rfl ?_
 rw[YB];dsimp only[aI]
 exact kh hc hn (P:=fun v=>aR [v]=.int .i64 (cM c n)/\m.n<=m.n) ⟨rfl,Nat.le_refl _⟩
theorem rK(hX:cW X){c n:Int}(hc:fP c)(hn:0 < n):C X (.func 14) [.int .i64 c,.int .i64 n] m m.n (.int .i64 (cM c n)) m:=by
 refine Cl.flat (hX.no _ rfl) OZ rfl rfl ?_
 rw[Y6];dsimp only[aI]
 exact kh hc hn (P:=fun v=>aR [v]=.int .i64 (cM c n)/\m.n<=m.n) ⟨rfl,Nat.le_refl _⟩
def eA(n lo hi:Int):Bool:=decide (lo<=n) && decide (n<=hi)
theorem gy(hX:cW X)(n lo hi:Int):C X (.func 66) [.int .i64 n,.int .i64 lo,.int .i64 hi] m m.n (.bool (eA n lo hi)) m:=by
 refine Cl.flat (hX.no _ rfl) OA rfl rfl ?_
 rw[YI];dsimp only[aI]
 refine bY (fun vs m2 lo'=>vs=[.bool (eA n lo hi)]/\m.n<=lo') (fun R hR=>?_) ?_
 ·simp only[cK,aa,aj]
  refine ak (fun h=>hR _ _ _ ⟨by simp[eA,h],Nat.le_refl _⟩) (fun h=>hR _ _ _ ⟨by simp[eA,h],Nat.le_refl _⟩)
 ·rintro _ m2 lo' ⟨rfl,hl⟩
  rw[aA]
  exact⟨rfl,hl⟩
theorem Na(hX:cW X)(n:Int):C X (.func 81) [.int .i64 n] m m.n (.bool (!(eA n (-1) 99))) m:=by
 refine Cl.flat (hX.no _ rfl) Oj rfl rfl ?_
 rw[Yv];dsimp only[aI]
 refine aC (gy hX _ _ _) ?_
 simp only[aX,aa]
 exact⟨rfl,by omega⟩
theorem sP(hX:cW X){l:List Int}{v:Value}{g:Fn}{fi ca:Array Value}(p:Int->Bool)(hb:l.length < 4611686018427387904)(hl:iV m l v)
  (hs:∀x∈l,C X g (fi.toList++([.int .i64 x]++ca.toList)) m m.n (.bool (p x)) m):C X (.func 82) [v,.func g fi ca] m m.n (.bool (l.any p)) m:=by
 refine Cl.flat (hX.no _ rfl) Oi rfl rfl ?_
 rw[Yu];dsimp only[aI]
 refine aC (mY eK (hX.no _ rfl) Mn rfl GQ p hb hl fun x hx cs hr=>by rw[show cs=[.int .i64 x]from hr];exact hs x hx) ?_
 simp only[ck,aa,sA,aR]
 exact⟨trivial,by omega⟩
def gx(w h:Int)(l:List Int):Bool:=eA w 1 40 && eA h 1 40 && decide ((l.length:Int)=w*h) && !(l.any fun n=> !(eA n (-1) 99))
theorem ej(hX:cW X){w h:Int}{l:List Int}{v:Value}(hl:iV m l v)(hb:l.length < 4611686018427387904):C X (.func 25) [cF w h v] m m.n (.bool (gx w h l)) m:=by
 refine Cl.flat (hX.no _ rfl) OU rfl rfl ?_
 rw[Y1];dsimp only[aI]
 refine au fun m1 hn1 hg1 hk1=>?_
 simp only[aP]at hg1
 have hx1:Ext m m1:=⟨by omega,fun b hb=>hk1 b hb⟩
 have hl1:=hl.aB hx1
 refine bY (fun vs m2 lo=>vs=[.bool (gx w h l)]/\m.n<=lo) (fun R hR=>?_) ?_
 ·simp only[aa,ar,bU,aj,bJ,aM,cK,aH,ck,bX,bE,bI,aX,ptrTo,di,dj,Nat.zero_add,Nat.reduceAdd,List.getElem?_cons_zero,List.getElem?_cons_succ,List.drop_zero,List.drop_succ_cons,List.take_succ_cons,List.take_zero,Option.map_some,aP,dI,dm,cP,dG,dH,dk,bj,bB,bh,sk,ez,bu,av hg1]
  refine aC (gy hX _ _ _) ?_
  simp only[aj]
  refine ak (fun h1=>?_) (fun h1=>hR _ _ _ ⟨by simp[gx,h1],by omega⟩)
  simp only[aa,ar,bU,aj,bJ,aM,cK,aH,ck,bX,bE,bI,aX,ptrTo,di,dj,Nat.zero_add,Nat.reduceAdd,List.getElem?_cons_zero,List.getElem?_cons_succ,List.drop_zero,List.drop_succ_cons,List.take_succ_cons,List.take_zero,Option.map_some,aP,dI,dm,cP,dG,dH,dk,bj,bB,bh,sk,ez,bu,av hg1]
  refine aC (gy hX _ _ _) ?_
  simp only[aj]
  refine ak (fun h2=>?_) (fun h2=>hR _ _ _ ⟨by simp[gx,h2],by omega⟩)
  simp only[aa,ar,bU,aj,bJ,aM,cK,aH,ck,bX,bE,bI,aX,ptrTo,di,dj,Nat.zero_add,Nat.reduceAdd,List.getElem?_cons_zero,List.getElem?_cons_succ,List.drop_zero,List.drop_succ_cons,List.take_succ_cons,List.take_zero,Option.map_some,aP,dI,dm,cP,dG,dH,dk,bj,bB,bh,sk,ez,bu,av hg1]
  rw[hl1.len eK,ar]
  have b1:1<=w/\w<=40:=by simpa[eA]using h1
  have b2:1<=h/\h<=40:=by simpa[eA]using h2
  have hwh: -(40*40)<=w*h/\w*h<=40*40:=mB (by omega) (by omega) (by omega) (by omega)
  simp only[cA,bE,aa,aj]
  rw[wrap64 (by omega) (by omega)]
  refine ak (fun h3=>?_) (fun h3=>hR _ _ _ ⟨by simp[gx,h3],by omega⟩)
  refine aC (sP (m:=m1) hX (fun n=> !(eA n (-1) 99)) hb hl1 fun x _=>Na hX x) ?_
  simp only[aX,aa]
  exact hR _ _ _ ⟨by simp[gx,h1,h2,h3],by omega⟩
 ·rintro _ m2 lo ⟨rfl,hlo⟩
  rw[aA]
  exact⟨rfl,hlo⟩
theorem AJ(hX:cW X){w h:Int}{l:List Int}{v:Value}(hl:Sl m l v)(hb:l.length < 4611686018427387904):C X (.func 25) [cF w h v] m m.n (.bool (gx w h l)) m:=ej hX (.inl hl) hb
end Go.Proofs.YtmdfgncoekfgdaaGreatDoor
namespace Go.Proofs.YtmdfgncoekfgdaaGreatDoor
open Go Go.D Go.ChangeShapes
noncomputable def fU(c:Array Value):List Value:=c.toList.map fun v=>bif bP v then v else undef
noncomputable def Gx:Option Obj->Ob
 |some (.cells c _ _)=> .ro (fU c)
 |_=> .dead
noncomputable def LA(W:World):Nat->M
 |0=>{st:=.e,n:=0,low:=0}
 |k+1=>(LA W k).push (Gx W.heap[k]?)
theorem BL(W:World):∀k,(LA W k).n=k
 |0=>rfl
 |k+1=>by
  show(LA W k).n+1=k+1
  rw[BL W k]
theorem BM(W:World):∀k b,b < k->(LA W k).get b=Gx W.heap[b]?
 |k+1,b,h=>by
  show((LA W k).push (Gx W.heap[k]?)).get b=_
  by_cases hb:b=k
  ·subst hb
   have:=M.aN (m:=LA W b) (o:=Gx W.heap[b]?)
   rw[BL]at this
   exact this
  ·rw[M.bF (by rw[BL];omega)]
   exact BM W k b (by omega)
noncomputable def dU(W:World):M:=(LA W W.heap.size).wl W.heap.size
theorem pz(W:World):(dU W).n=W.heap.size:=BL W _
theorem qe(W:World){b:Nat}(h:b < W.heap.size):(dU W).get b=Gx W.heap[b]?:=BM W _ b h
noncomputable def lx(W:World):Sg:=fun b=>if b < W.heap.size then some ⟨b,none⟩else none
theorem iW{W:World}{b:Nat}{i:BI}(h:lx W b=some i):b < W.heap.size/\i=⟨b,none⟩:=by
 unfold lx at h
 by_cases hb:b < W.heap.size
 ·rw[if_pos hb]at h;cases h;exact⟨hb,rfl⟩
 ·rw[if_neg hb]at h;cases h
theorem wY{W:World}(hW:2 < W.heap.size):dN Tryz.prog (lx W) (dU W) W:=by
 refine⟨fun b i hb=>?_,fun b i hb=>?_,fun b i hb=>?_,fun b b' i i' hb hb' _ _ he=>?_,fun g hg=>?_⟩
 ·rw[pz];exact(iW hb).1
 ·obtain⟨h,rfl⟩:=iW hb
  rw[qe W h]
  cases ho:W.heap[b]? with
  |none=>trivial
  |some o=>
   cases o with
   |cells c e fz=>
    refine⟨rfl,c,e,fz,ho,by simp[fU],fun j u u' hu hu' h1=>?_⟩
    have hu2:(fU c)[j]?=some (bif bP u' then u' else undef):=by
     unfold fU
     rw[List.getElem?_map,Array.getElem?_toList,hu']
     rfl
    rw[hu]at hu2
    simp only[Option.some.injEq]at hu2
    subst hu2
    cases hf:bP u' with
    |true=>exact .flat _ hf
    |false=>rw[hf]at h1;cases h1
   |_=>trivial
 ·obtain⟨h,rfl⟩:=iW hb
  exact h
 ·obtain⟨_,rfl⟩:=iW hb
  obtain⟨_,rfl⟩:=iW hb'
  exact he
 ·have hgs:Tryz.prog.globals.size=3:=by kernel_rfl
  rw[hgs]at hg
  unfold lx
  rw[if_pos (by omega)]
theorem lR{α:Type}{Q:Nat->α->Prop}:∀n,(∀i,i < n->∃y,Q i y)->∃l:List α,l.length=n/\∀i y,l[i]?=some y->Q i y
 |0,_=>⟨[],rfl,fun i y h=>by simp at h⟩
 |n+1,h=>by
  obtain⟨l,hl,hq⟩:=lR n fun i hi=>h i (by omega)
  obtain⟨y,hy⟩:=h n (by omega)
  refine⟨l++ [y],by simp[hl],fun i z hz=>?_⟩
  by_cases hi:i < n
  ·rw[List.getElem?_append_left (by omega)]at hz
   exact hq i z hz
  ·rw[List.getElem?_append_right (by omega),hl]at hz
   obtain rfl:i=n:=by
    have:=(List.getElem?_eq_some_iff.1 hz).1
    simp at this;omega
   simp at hz
   subst hz
   exact hy
section
variable {H:Type} {enc:TypeId×Value->H} {W:World} {sp:Nat->Bool} {held:Bool} {base:Nat}
set_option maxRecDepth 10000 in
theorem zO{t e:TypeId}{α:Type}[aL α]{Py:α->Prop}{v:Value}{fuel:Nat}{x:DataW H×List MemPlace}(ht:Tryz.prog.underlying t=some (.slice e))(hce:Tryz.prog.cellsOf e=aL.sz α)
  (hel:∀fuel cs x,DataW.trod enc Tryz.prog W 0 sp held fuel e cs=some x->∃y:α,Py y/\(∀m,aL.rep m y cs)/\∀u∈cs,bP u=true)
  (hok:Cell.okWide Tryz.prog W .any base t v) (h:DataW.trod enc Tryz.prog W 0 sp held fuel t [v]=some x):
  aJ (lx W) v v/\∃l:List α,zx (dU W) l v/\l.length < 9223372036854775808/\∀y∈l,Py y:=by
 rcases DataW.trod_slice ht h with⟨hv,_⟩ |⟨a,len,cap,elems,rest,n,rfl,hv,rfl,hb,hl,hm,hlen,hels,_,_⟩
 ·simp only[List.cons.injEq,and_true]at hv
  subst hv
  exact⟨.flat _ rfl,[],.inl ⟨rfl,rfl⟩,by simp,fun y hy=>by cases hy⟩
 ·simp only[List.cons.injEq,and_true]at hv
  subst hv
  simp only[Cell.okWide,Cell.ok,ht]at hok
  obtain⟨_,_,_,hspot,row,cells,hsh,_⟩:=hok
  obtain⟨cG,off,spt⟩:=a
  dsimp only at hspot hsh hb
  subst hspot
  unfold World.shape? at hsh
  cases ho:W.heap[cG]? with
  |none=>rw[ho]at hsh;cases hsh
  |some o=>
   rw[ho]at hsh
   cases o with
   |cells c e' fz=>
    have hlt:cG < W.heap.size:=(Array.getElem?_eq_some_iff.1 ho).1
    have hsg:lx W cG=some ⟨cG,none⟩:=by unfold lx;rw[if_pos hlt]
    refine⟨.slice ⟨cG,off,none⟩ ⟨cG,none⟩ len cap hsg rfl rfl,?_⟩
    have hpos:=aL.pos (α:=α)
    obtain⟨l,hll,hq⟩:=lR (Q:=fun i (y:α)=>Py y/\off+i*aL.sz α+aL.sz α<=(fU c).length/\aL.rep (dU W) y (((fU c).drop (off+i*aL.sz α)).take (aL.sz α))) len fun i hi=>by
     have he:=hels i hi
     rw[List.getElem?_eq_getElem (by omega)]at he
     obtain⟨cs',hcs,htr⟩:=Option.bind_eq_some_iff.1 he
     obtain⟨y,hy,hrep,hfl⟩:=hel _ _ _ htr
     obtain⟨_,hcl,hat⟩:=World.cells?_some hcs
     rw[hce]at hcl hat
     have hat':∀j,j < aL.sz α->c[off+i*aL.sz α+j]?=cs'[j]?:=fun j hj=>by
      have:=hat j hj
      rw[D.dz,D.dz]at this
      rw[<-this]
      simp only[World.cell?,ho]
      rfl
     have hbound:off+i*aL.sz α+aL.sz α<=(fU c).length:=by
      have:=hat' (aL.sz α-1) (by omega)
      rw[List.getElem?_eq_getElem (by omega)]at this
      have:=(Array.getElem?_eq_some_iff.1 this).1
      unfold fU
      rw[List.length_map,Array.length_toList]
      omega
     refine⟨y,hy,hbound,?_⟩
     have:((fU c).drop (off+i*aL.sz α)).take (aL.sz α)=cs':=by
      apply List.ext_getElem?
      intro j
      by_cases hj:j < aL.sz α
      ·rw[List.getElem?_take_of_lt hj,List.getElem?_drop]
       unfold fU
       rw[List.getElem?_map,Array.getElem?_toList,hat' j hj]
       cases hu:cs'[j]? with
       |none=>rfl
       |some u=>
        rw[Option.map_some,hfl u (List.mem_of_getElem? hu)]
        rfl
      ·rw[List.getElem?_eq_none (by rw[List.length_take];omega),List.getElem?_eq_none (by omega)]
     rw[this]
     exact hrep _
    refine⟨l,.inr ⟨cG,off,cap,fU c,by rw[hll],?_,fun i y hi=>⟨(hq i y hi).2.1,(hq i y hi).2.2⟩⟩,?_,fun y hy=>?_⟩
    ·rw[qe W hlt,ho]
     rfl
    ·have:maxLen < 9223372036854775808:=by unfold maxLen;decide
     omega
    ·obtain⟨i,hi⟩:=List.mem_iff_getElem?.1 hy
     exact(hq i y hi).1
   |_=>cases hsh
theorem vK{t:TypeId}{n:Nat}{cs:List Value}{fuel:Nat}{x:DataW H×List MemPlace}(ht:Tryz.prog.underlying t=some (.array n 3))(hct:Tryz.prog.cellsOf t=n)
  (h:DataW.trod enc Tryz.prog W 0 sp held fuel t cs=some x):∃l:List Int,cs=l.map (.int .i64)/\l.length=n/\∀z∈l,fP z:=by
 obtain⟨xs,m,rfl,rfl,hcl,hxl,hel⟩:=DataW.trod_array ht h
 rw[hct]at hcl
 have h3:Tryz.prog.underlying 3=some (.int .i64):=by kernel_rfl
 have hc3:Tryz.prog.cellsOf 3=1:=by kernel_rfl
 obtain⟨l,hl,hq⟩:=lR (Q:=fun i (z:Int)=>cs[i]?=some (.int .i64 z)/\fP z) n fun i hi=>by
  have:=hel i hi
  rw[hc3,List.getElem?_eq_getElem (by omega)]at this
  obtain⟨z,hz,_,hwf⟩:=DataW.trod_int h3 this
  refine⟨z,?_,?_⟩
  ·have:=congrArg (fun q:List Value=>q[0]?) hz
   simpa[List.getElem?_take_of_lt,List.getElem?_drop]using this
  ·have hmm:IntKind.i64.min= -9223372036854775808/\IntKind.i64.max=9223372036854775807:=⟨by decide,by decide⟩
   simp only[Lit.wf,Bool.and_eq_true,decide_eq_true_eq,hmm]at hwf
   unfold fP
   omega
 refine⟨l,?_,hl,fun z hz=>?_⟩
 ·apply List.ext_getElem?
  intro i
  by_cases hi:i < n
  ·have hz:l[i]?=some l[i]:=List.getElem?_eq_getElem (by omega)
   rw[(hq i _ hz).1,List.getElem?_map,hz]
   rfl
  ·rw[List.getElem?_eq_none (by omega),List.getElem?_eq_none (by rw[List.length_map];omega)]
 ·obtain⟨i,hi⟩:=List.mem_iff_getElem?.1 hz
  exact(hq i z hi).2
end
end Go.Proofs.YtmdfgncoekfgdaaGreatDoor
namespace Go.Proofs.YtmdfgncoekfgdaaGreatDoor
open Go Go.D Go.ChangeShapes
theorem tG:Tryz.prog.underlying 3=some (.int .i64):=by kernel_rfl
theorem uN:Tryz.prog.underlying 4=some .bool:=by kernel_rfl
theorem rj:Tryz.prog.underlying 25=some (.slice 3):=by kernel_rfl
theorem Kh:Tryz.prog.underlying 24=some (.array 2 3):=by kernel_rfl
theorem uJ{k:Int}(h:(Lit.int .i64 k).wf=true):fP k:=by
 have hmm:IntKind.i64.min= -9223372036854775808/\IntKind.i64.max=9223372036854775807:=⟨by decide,by decide⟩
 simp only[Lit.wf,Bool.and_eq_true,decide_eq_true_eq,hmm]at h
 unfold fP
 omega
section
variable {H:Type} {enc:TypeId×Value->H} {W:World} {sp:Nat->Bool} {held:Bool} {base:Nat}
theorem HS:∀fuel cs x,DataW.trod enc Tryz.prog W 0 sp held fuel 3 cs=some x->∃y:Int,fP y/\(∀m,aL.rep m y cs)/\∀u∈cs,bP u=true:=by
 intro fuel cs x h
 obtain⟨z,rfl,_,hwf⟩:=DataW.trod_int tG h
 exact⟨z,uJ hwf,fun m=>rfl,fun u hu=>by rw[List.mem_singleton.1 hu];rfl⟩
set_option maxRecDepth 100000 in
theorem Lj{v:Value}{d:DataW H}{ps:List MemPlace}(hok:Value.okWide Tryz.prog W .any base 24 v)(h:DataW.Trod enc Tryz.prog W 0 sp held 24 v d ps):
  aJ (lx W) v v/\∃a b,v=.agg #[.int .i64 a,.int .i64 b]/\fP a/\fP b:=by
 simp only[Value.okWide,Kh]at hok
 obtain⟨cs,rfl,_⟩:=hok
 obtain⟨fuel,h⟩:=h
 obtain⟨l,hl,hn,hr⟩:=vK Kh (by kernel_rfl) h
 obtain⟨cs⟩:=cs
 have hl':cs=l.map (.int .i64):=hl
 subst hl'
 match l,hn,hr with
 |[a,b],_,hr=>exact⟨aJ.eb rfl,a,b,rfl,hr _ (by simp),hr _ (by simp)⟩
set_option maxRecDepth 100000 in
theorem FR{v:Value}{d:DataW H}{ps:List MemPlace}(hok:Value.okWide Tryz.prog W .any base 25 v)(h:DataW.Trod enc Tryz.prog W 0 sp held 25 v d ps):
  aJ (lx W) v v/\∃l:List Int,zx (dU W) l v/\l.length < 9223372036854775808/\∀y∈l,fP y:=by
 simp only[Value.okWide,rj]at hok
 obtain⟨fuel,h⟩:=h
 have hv:v.cells.toList=[v]:=by
  cases v with
  |agg cs=>
   exfalso
   revert hok
   simp[Cell.okWide,Cell.ok,rj]
  |_=>rfl
 rw[hv]at h
 obtain⟨a,l,b,c,d⟩:=zO (α:=Int) (v:=v) rj (by kernel_rfl) HS hok h
 exact⟨a,l,b,c,d⟩
set_option maxRecDepth 100000 in
theorem GN{v:Value}{d:DataW H}{ps:List MemPlace}(hok:Value.okWide Tryz.prog W .any base 3 v)(h:DataW.Trod enc Tryz.prog W 0 sp held 3 v d ps):
  aJ (lx W) v v/\∃z,v=.int .i64 z/\fP z:=by
 obtain⟨fuel,h⟩:=h
 obtain⟨z,hz,_,hwf⟩:=DataW.trod_int tG h
 have hv:v=.int .i64 z:=by
  simp only[Value.okWide,tG]at hok
  cases v with
  |agg cs=>
   exfalso
   revert hok
   simp[Cell.okWide,Cell.ok,tG]
  |int k n=>simpa[Value.cells]using hz
  |_=>simp[Value.cells]at hz
 subst hv
 exact⟨aJ.eb rfl,z,rfl,uJ hwf⟩
end
theorem zk{X:aF}(hX:cQ Tryz.prog X){W:World}(hW:2 < W.heap.size){f:Nat}{args:List Value}{args':Array Value}{m':M}{b:Bool}(h:C X (.func f) args (dU W) (dU W).n (.bool b) m')(hl:aU (lx W) args args'.toList):
  Calls Tryz.prog f args' W fun e W'=>e=.returned (.bool b)/\Go.RowKit.Below W.heap.size W W':=by
 obtain⟨hn,_,n0,hc⟩:=h
 have h1:=hc n0 (Nat.le_refl _) (dU W).n (Nat.le_refl _)
 have hsim:dN Tryz.prog (lx W) ((dU W).wl (dU W).n) W:=by
  have:=wY hW
  exact⟨this.mI,this.obj,this.lt,this.inj,this.iy⟩
 refine(oX af.ok hX h1 hsim hl).mono fun e w' he=>?_
 obtain⟨v',σ',rfl,hv,hev⟩:=he
 have hv':=hv.aQ rfl
 subst hv'
 refine⟨rfl,hev.os,hev.tape,hev.output,hev.hle,fun B hB=>hev.heap B hB fun b i hb hi=>?_⟩
 have:=(iW hb).1
 show b < min (dU W).n (dU W).n
 rw[pz]
 omega
end Go.Proofs.YtmdfgncoekfgdaaGreatDoor
