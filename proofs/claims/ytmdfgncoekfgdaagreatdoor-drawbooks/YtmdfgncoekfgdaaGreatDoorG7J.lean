/- What the words of the formulas come to at the program's types, and its functions in the tables (made by mkty.py; proved by the kernel). -/
import Derived.Test.YtmdfgncoekfgdaaGreatDoorTabJ
import Derived.Test.YtmdfgncoekfgdaaGreatDoorG5J
namespace Go.Proofs.YtmdfgncoekfgdaaGreatDoor
open Go Go.D
theorem bF{l:List Value}(h:l.length=1):∃y0,l=[y0]:=by
 match l,h with
 |[y0],_=>exact⟨y0,rfl⟩
theorem rD{x0 x1 x2:Value}(h0:(cells x0).length=1)(h1:(cells x1).length=1)(h2:(cells x2).length=1):aW TE 234 [(0,x0),(1,x1),(2,x2)]=some (.agg (cells x0++(cells x1++(cells x2))).toArray):=by
 obtain⟨y0_0,e0⟩:=bF h0
 obtain⟨y1_0,e1⟩:=bF h1
 obtain⟨y2_0,e2⟩:=bF h2
 simp only[aW,show TE.ty.get 234=some af.t234 by kernel_rfl,af.t234,fill,aL,List.getElem?_cons_zero,List.getElem?_cons_succ,List.length_cons,List.length_nil,Option.map_some,e0,e1,e2]
 rfl
theorem rC{x0 x1 x2:Value}(h0:(cells x0).length=1)(h1:(cells x1).length=1)(h2:(cells x2).length=1):aW TE 236 [(0,x0),(1,x1),(2,x2)]=some (.agg (cells x0++(cells x1++(cells x2))).toArray):=by
 obtain⟨y0_0,e0⟩:=bF h0
 obtain⟨y1_0,e1⟩:=bF h1
 obtain⟨y2_0,e2⟩:=bF h2
 simp only[aW,show TE.ty.get 236=some af.t236 by kernel_rfl,af.t236,fill,aL,List.getElem?_cons_zero,List.getElem?_cons_succ,List.length_cons,List.length_nil,Option.map_some,e0,e1,e2]
 rfl
theorem xB{x0 x1:Value}(h0:(cells x0).length=1)(h1:(cells x1).length=1):aW TE 27 [(0,x0),(1,x1)]=some (.agg (cells x0++(cells x1++(([(.slice none 0 0)]:List Value)))).toArray):=by
 obtain⟨y0_0,e0⟩:=bF h0
 obtain⟨y1_0,e1⟩:=bF h1
 simp only[aW,show TE.ty.get 27=some af.t27 by kernel_rfl,af.t27,fill,aL,List.getElem?_cons_zero,List.getElem?_cons_succ,List.length_cons,List.length_nil,Option.map_some,e0,e1]
 rfl
theorem Fv:aW TE 31 []=some (.agg (([(.slice none 0 0)]:List Value)).toArray):=by kernel_rfl
theorem Bw{x0:Value}(h0:(cells x0).length=1):aW TE 60 [(0,x0)]=some (.agg (cells x0++(([(.slice none 0 0)]:List Value))).toArray):=by
 obtain⟨y0_0,e0⟩:=bF h0
 simp only[aW,show TE.ty.get 60=some af.t60 by kernel_rfl,af.t60,fill,aL,List.getElem?_cons_zero,List.getElem?_cons_succ,List.length_cons,List.length_nil,Option.map_some,e0]
 rfl
theorem Fu:aW TE 87 []=some (.agg (([(.int .i64 0)]:List Value)++(([(.int .i64 0)]:List Value)++(([(.int .i64 0)]:List Value)++(([(.slice none 0 0)]:List Value)++(([(.int .i64 0)]:List Value)++(([(.int .i64 0)]:List Value))))))).toArray):=by kernel_rfl
theorem mg{x0 x1 x2 x3 x4 x5:Value}(h0:(cells x0).length=1)(h1:(cells x1).length=1)(h2:(cells x2).length=1)(h3:(cells x3).length=1)(h4:(cells x4).length=1)(h5:(cells x5).length=1):aW TE 87 [(0,x0),(1,x1),(2,x2),(3,x3),(4,x4),(5,x5)]=some (.agg (cells x0++(cells x1++(cells x2++(cells x3++(cells x4++(cells x5)))))).toArray):=by
 obtain⟨y0_0,e0⟩:=bF h0
 obtain⟨y1_0,e1⟩:=bF h1
 obtain⟨y2_0,e2⟩:=bF h2
 obtain⟨y3_0,e3⟩:=bF h3
 obtain⟨y4_0,e4⟩:=bF h4
 obtain⟨y5_0,e5⟩:=bF h5
 simp only[aW,show TE.ty.get 87=some af.t87 by kernel_rfl,af.t87,fill,aL,List.getElem?_cons_zero,List.getElem?_cons_succ,List.length_cons,List.length_nil,Option.map_some,e0,e1,e2,e3,e4,e5]
 rfl
theorem ez{x0 x1:Value}(h0:(cells x0).length=1)(h1:(cells x1).length=1):aW TE 98 [(0,x0),(1,x1)]=some (.agg (cells x0++(cells x1)).toArray):=by
 obtain⟨y0_0,e0⟩:=bF h0
 obtain⟨y1_0,e1⟩:=bF h1
 simp only[aW,show TE.ty.get 98=some af.t98 by kernel_rfl,af.t98,fill,aL,List.getElem?_cons_zero,List.getElem?_cons_succ,List.length_cons,List.length_nil,Option.map_some,e0,e1]
 rfl
theorem Bn{m:M}{k:IntKind}{n:Int}:Kb TE m 224 3 (.int k n)=some (.int .i64 (IntKind.wrap .i64 n)):=by kernel_rfl
theorem Bm{m:M}{k:IntKind}{n:Int}:Kb TE m 3 224 (.int k n)=some (.int .u64 (IntKind.wrap .u64 n)):=by kernel_rfl
theorem iN{b o:Nat}:ae TE 105 (.pointer (some ⟨b,o,none⟩)) 0=some (.pointer (some ⟨b,o+0,none⟩)):=by rw[show ae TE 105 (.pointer (some ⟨b,o,none⟩)) 0=some (.pointer (some (Addr.add ⟨b,o,none⟩ 0))) by kernel_rfl,aZ rfl]
theorem fF{b o:Nat}:ae TE 105 (.pointer (some ⟨b,o,none⟩)) 1=some (.pointer (some ⟨b,o+1,none⟩)):=by rw[show ae TE 105 (.pointer (some ⟨b,o,none⟩)) 1=some (.pointer (some (Addr.add ⟨b,o,none⟩ 1))) by kernel_rfl,aZ rfl]
theorem lC{b o:Nat}:ae TE 105 (.pointer (some ⟨b,o,none⟩)) 2=some (.pointer (some ⟨b,o+2,none⟩)):=by rw[show ae TE 105 (.pointer (some ⟨b,o,none⟩)) 2=some (.pointer (some (Addr.add ⟨b,o,none⟩ 2))) by kernel_rfl,aZ rfl]
theorem dn{b o:Nat}:ae TE 105 (.pointer (some ⟨b,o,none⟩)) 3=some (.pointer (some ⟨b,o+3,none⟩)):=by rw[show ae TE 105 (.pointer (some ⟨b,o,none⟩)) 3=some (.pointer (some (Addr.add ⟨b,o,none⟩ 3))) by kernel_rfl,aZ rfl]
theorem iM{b o:Nat}:ae TE 105 (.pointer (some ⟨b,o,none⟩)) 4=some (.pointer (some ⟨b,o+4,none⟩)):=by rw[show ae TE 105 (.pointer (some ⟨b,o,none⟩)) 4=some (.pointer (some (Addr.add ⟨b,o,none⟩ 4))) by kernel_rfl,aZ rfl]
theorem cT{b o:Nat}:ae TE 107 (.pointer (some ⟨b,o,none⟩)) 1=some (.pointer (some ⟨b,o+1,none⟩)):=by rw[show ae TE 107 (.pointer (some ⟨b,o,none⟩)) 1=some (.pointer (some (Addr.add ⟨b,o,none⟩ 1))) by kernel_rfl,aZ rfl]
theorem ry{b o:Nat}:ae TE 113 (.pointer (some ⟨b,o,none⟩)) 0=some (.pointer (some ⟨b,o+0,none⟩)):=by rw[show ae TE 113 (.pointer (some ⟨b,o,none⟩)) 0=some (.pointer (some (Addr.add ⟨b,o,none⟩ 0))) by kernel_rfl,aZ rfl]
theorem ru{b o:Nat}:ae TE 113 (.pointer (some ⟨b,o,none⟩)) 1=some (.pointer (some ⟨b,o+2,none⟩)):=by rw[show ae TE 113 (.pointer (some ⟨b,o,none⟩)) 1=some (.pointer (some (Addr.add ⟨b,o,none⟩ 2))) by kernel_rfl,aZ rfl]
theorem iL{b o:Nat}:ae TE 115 (.pointer (some ⟨b,o,none⟩)) 0=some (.pointer (some ⟨b,o+0,none⟩)):=by rw[show ae TE 115 (.pointer (some ⟨b,o,none⟩)) 0=some (.pointer (some (Addr.add ⟨b,o,none⟩ 0))) by kernel_rfl,aZ rfl]
theorem iK{b o:Nat}:ae TE 115 (.pointer (some ⟨b,o,none⟩)) 1=some (.pointer (some ⟨b,o+1,none⟩)):=by rw[show ae TE 115 (.pointer (some ⟨b,o,none⟩)) 1=some (.pointer (some (Addr.add ⟨b,o,none⟩ 1))) by kernel_rfl,aZ rfl]
theorem rr{b o:Nat}:ae TE 115 (.pointer (some ⟨b,o,none⟩)) 2=some (.pointer (some ⟨b,o+2,none⟩)):=by rw[show ae TE 115 (.pointer (some ⟨b,o,none⟩)) 2=some (.pointer (some (Addr.add ⟨b,o,none⟩ 2))) by kernel_rfl,aZ rfl]
theorem rq{b o:Nat}:ae TE 234 (.pointer (some ⟨b,o,none⟩)) 0=some (.pointer (some ⟨b,o+0,none⟩)):=by rw[show ae TE 234 (.pointer (some ⟨b,o,none⟩)) 0=some (.pointer (some (Addr.add ⟨b,o,none⟩ 0))) by kernel_rfl,aZ rfl]
theorem rp{b o:Nat}:ae TE 234 (.pointer (some ⟨b,o,none⟩)) 1=some (.pointer (some ⟨b,o+1,none⟩)):=by rw[show ae TE 234 (.pointer (some ⟨b,o,none⟩)) 1=some (.pointer (some (Addr.add ⟨b,o,none⟩ 1))) by kernel_rfl,aZ rfl]
theorem rn{b o:Nat}:ae TE 234 (.pointer (some ⟨b,o,none⟩)) 2=some (.pointer (some ⟨b,o+2,none⟩)):=by rw[show ae TE 234 (.pointer (some ⟨b,o,none⟩)) 2=some (.pointer (some (Addr.add ⟨b,o,none⟩ 2))) by kernel_rfl,aZ rfl]
theorem iJ{b o:Nat}:ae TE 236 (.pointer (some ⟨b,o,none⟩)) 0=some (.pointer (some ⟨b,o+0,none⟩)):=by rw[show ae TE 236 (.pointer (some ⟨b,o,none⟩)) 0=some (.pointer (some (Addr.add ⟨b,o,none⟩ 0))) by kernel_rfl,aZ rfl]
theorem iI{b o:Nat}:ae TE 236 (.pointer (some ⟨b,o,none⟩)) 1=some (.pointer (some ⟨b,o+1,none⟩)):=by rw[show ae TE 236 (.pointer (some ⟨b,o,none⟩)) 1=some (.pointer (some (Addr.add ⟨b,o,none⟩ 1))) by kernel_rfl,aZ rfl]
theorem iH{b o:Nat}:ae TE 236 (.pointer (some ⟨b,o,none⟩)) 2=some (.pointer (some ⟨b,o+2,none⟩)):=by rw[show ae TE 236 (.pointer (some ⟨b,o,none⟩)) 2=some (.pointer (some (Addr.add ⟨b,o,none⟩ 2))) by kernel_rfl,aZ rfl]
theorem tI{b o:Nat}:ae TE 27 (.pointer (some ⟨b,o,none⟩)) 2=some (.pointer (some ⟨b,o+2,none⟩)):=by rw[show ae TE 27 (.pointer (some ⟨b,o,none⟩)) 2=some (.pointer (some (Addr.add ⟨b,o,none⟩ 2))) by kernel_rfl,aZ rfl]
theorem bR{b o:Nat}:ae TE 31 (.pointer (some ⟨b,o,none⟩)) 0=some (.pointer (some ⟨b,o+0,none⟩)):=by rw[show ae TE 31 (.pointer (some ⟨b,o,none⟩)) 0=some (.pointer (some (Addr.add ⟨b,o,none⟩ 0))) by kernel_rfl,aZ rfl]
theorem tH{b o:Nat}:ae TE 57 (.pointer (some ⟨b,o,none⟩)) 0=some (.pointer (some ⟨b,o+0,none⟩)):=by rw[show ae TE 57 (.pointer (some ⟨b,o,none⟩)) 0=some (.pointer (some (Addr.add ⟨b,o,none⟩ 0))) by kernel_rfl,aZ rfl]
theorem lX{b o:Nat}:ae TE 57 (.pointer (some ⟨b,o,none⟩)) 1=some (.pointer (some ⟨b,o+1,none⟩)):=by rw[show ae TE 57 (.pointer (some ⟨b,o,none⟩)) 1=some (.pointer (some (Addr.add ⟨b,o,none⟩ 1))) by kernel_rfl,aZ rfl]
theorem cP{b o:Nat}:ae TE 60 (.pointer (some ⟨b,o,none⟩)) 0=some (.pointer (some ⟨b,o+0,none⟩)):=by rw[show ae TE 60 (.pointer (some ⟨b,o,none⟩)) 0=some (.pointer (some (Addr.add ⟨b,o,none⟩ 0))) by kernel_rfl,aZ rfl]
theorem eV{b o:Nat}:ae TE 60 (.pointer (some ⟨b,o,none⟩)) 1=some (.pointer (some ⟨b,o+1,none⟩)):=by rw[show ae TE 60 (.pointer (some ⟨b,o,none⟩)) 1=some (.pointer (some (Addr.add ⟨b,o,none⟩ 1))) by kernel_rfl,aZ rfl]
theorem bt{b o:Nat}:ae TE 87 (.pointer (some ⟨b,o,none⟩)) 0=some (.pointer (some ⟨b,o+0,none⟩)):=by rw[show ae TE 87 (.pointer (some ⟨b,o,none⟩)) 0=some (.pointer (some (Addr.add ⟨b,o,none⟩ 0))) by kernel_rfl,aZ rfl]
theorem lW{b o:Nat}:ae TE 87 (.pointer (some ⟨b,o,none⟩)) 1=some (.pointer (some ⟨b,o+1,none⟩)):=by rw[show ae TE 87 (.pointer (some ⟨b,o,none⟩)) 1=some (.pointer (some (Addr.add ⟨b,o,none⟩ 1))) by kernel_rfl,aZ rfl]
theorem lV{b o:Nat}:ae TE 87 (.pointer (some ⟨b,o,none⟩)) 2=some (.pointer (some ⟨b,o+2,none⟩)):=by rw[show ae TE 87 (.pointer (some ⟨b,o,none⟩)) 2=some (.pointer (some (Addr.add ⟨b,o,none⟩ 2))) by kernel_rfl,aZ rfl]
theorem bd{b o:Nat}:ae TE 87 (.pointer (some ⟨b,o,none⟩)) 3=some (.pointer (some ⟨b,o+3,none⟩)):=by rw[show ae TE 87 (.pointer (some ⟨b,o,none⟩)) 3=some (.pointer (some (Addr.add ⟨b,o,none⟩ 3))) by kernel_rfl,aZ rfl]
theorem cO{b o:Nat}:ae TE 87 (.pointer (some ⟨b,o,none⟩)) 4=some (.pointer (some ⟨b,o+4,none⟩)):=by rw[show ae TE 87 (.pointer (some ⟨b,o,none⟩)) 4=some (.pointer (some (Addr.add ⟨b,o,none⟩ 4))) by kernel_rfl,aZ rfl]
theorem cN{b o:Nat}:ae TE 87 (.pointer (some ⟨b,o,none⟩)) 5=some (.pointer (some ⟨b,o+5,none⟩)):=by rw[show ae TE 87 (.pointer (some ⟨b,o,none⟩)) 5=some (.pointer (some (Addr.add ⟨b,o,none⟩ 5))) by kernel_rfl,aZ rfl]
theorem dg{b o:Nat}:ae TE 89 (.pointer (some ⟨b,o,none⟩)) 0=some (.pointer (some ⟨b,o+0,none⟩)):=by rw[show ae TE 89 (.pointer (some ⟨b,o,none⟩)) 0=some (.pointer (some (Addr.add ⟨b,o,none⟩ 0))) by kernel_rfl,aZ rfl]
theorem gj{b o:Nat}:ae TE 89 (.pointer (some ⟨b,o,none⟩)) 1=some (.pointer (some ⟨b,o+1,none⟩)):=by rw[show ae TE 89 (.pointer (some ⟨b,o,none⟩)) 1=some (.pointer (some (Addr.add ⟨b,o,none⟩ 1))) by kernel_rfl,aZ rfl]
theorem gh{b o:Nat}:ae TE 89 (.pointer (some ⟨b,o,none⟩)) 2=some (.pointer (some ⟨b,o+2,none⟩)):=by rw[show ae TE 89 (.pointer (some ⟨b,o,none⟩)) 2=some (.pointer (some (Addr.add ⟨b,o,none⟩ 2))) by kernel_rfl,aZ rfl]
theorem tG{b o:Nat}:ae TE 89 (.pointer (some ⟨b,o,none⟩)) 3=some (.pointer (some ⟨b,o+3,none⟩)):=by rw[show ae TE 89 (.pointer (some ⟨b,o,none⟩)) 3=some (.pointer (some (Addr.add ⟨b,o,none⟩ 3))) by kernel_rfl,aZ rfl]
theorem bC{b o:Nat}:ae TE 98 (.pointer (some ⟨b,o,none⟩)) 0=some (.pointer (some ⟨b,o+0,none⟩)):=by rw[show ae TE 98 (.pointer (some ⟨b,o,none⟩)) 0=some (.pointer (some (Addr.add ⟨b,o,none⟩ 0))) by kernel_rfl,aZ rfl]
theorem bJ{b o:Nat}:ae TE 98 (.pointer (some ⟨b,o,none⟩)) 1=some (.pointer (some ⟨b,o+1,none⟩)):=by rw[show ae TE 98 (.pointer (some ⟨b,o,none⟩)) 1=some (.pointer (some (Addr.add ⟨b,o,none⟩ 1))) by kernel_rfl,aZ rfl]
theorem Nd{m:M}{a:Option Addr}{n c:Nat}:aq TE m .len [29] [.slice a n c]=some (.int .i64 n,m):=by kernel_rfl
theorem Nc{m:M}{a:Option Addr}{n c:Nat}:aq TE m .len [45] [.slice a n c]=some (.int .i64 n,m):=by kernel_rfl
theorem zm{m:M}{a:Addr}:ag TE m 102 (.pointer (some a))=D.cellAt m a:=by kernel_rfl
theorem HP{m:M}{a:Addr}:ag TE m 105 (.pointer (some a))=(D.loadCells m a 5).map (fun cs=> .agg cs.toArray):=by kernel_rfl
theorem pk{m:M}{a:Addr}:ag TE m 110 (.pointer (some a))=D.cellAt m a:=by kernel_rfl
theorem zl{m:M}{a:Addr}:ag TE m 113 (.pointer (some a))=(D.loadCells m a 4).map (fun cs=> .agg cs.toArray):=by kernel_rfl
theorem zk{m:M}{a:Addr}:ag TE m 115 (.pointer (some a))=(D.loadCells m a 8).map (fun cs=> .agg cs.toArray):=by kernel_rfl
theorem HO{m:M}{a:Addr}:ag TE m 133 (.pointer (some a))=D.cellAt m a:=by kernel_rfl
theorem KN{m:M}{a:Addr}:ag TE m 22 (.pointer (some a))=D.cellAt m a:=by kernel_rfl
theorem HN{m:M}{a:Addr}:ag TE m 236 (.pointer (some a))=(D.loadCells m a 3).map (fun cs=> .agg cs.toArray):=by kernel_rfl
theorem jU{m:M}{a:Addr}:ag TE m 25 (.pointer (some a))=D.cellAt m a:=by kernel_rfl
theorem pj{m:M}{a:Addr}:ag TE m 27 (.pointer (some a))=(D.loadCells m a 3).map (fun cs=> .agg cs.toArray):=by kernel_rfl
theorem fD{m:M}{a:Addr}:ag TE m 29 (.pointer (some a))=D.cellAt m a:=by kernel_rfl
theorem bA{m:M}{a:Addr}:ag TE m 3 (.pointer (some a))=D.cellAt m a:=by kernel_rfl
theorem eo{m:M}{a:Addr}:ag TE m 31 (.pointer (some a))=(D.loadCells m a 1).map (fun cs=> .agg cs.toArray):=by kernel_rfl
theorem sZ{m:M}{a:Addr}:ag TE m 4 (.pointer (some a))=D.cellAt m a:=by kernel_rfl
theorem mO{m:M}{a:Addr}:ag TE m 45 (.pointer (some a))=D.cellAt m a:=by kernel_rfl
theorem KM{m:M}{a:Addr}:ag TE m 55 (.pointer (some a))=D.cellAt m a:=by kernel_rfl
theorem KL{m:M}{a:Addr}:ag TE m 57 (.pointer (some a))=(D.loadCells m a 3).map (fun cs=> .agg cs.toArray):=by kernel_rfl
theorem rQ{m:M}{a:Addr}:ag TE m 58 (.pointer (some a))=D.cellAt m a:=by kernel_rfl
theorem mN{m:M}{a:Addr}:ag TE m 60 (.pointer (some a))=(D.loadCells m a 2).map (fun cs=> .agg cs.toArray):=by kernel_rfl
theorem wC{m:M}{a:Addr}:ag TE m 87 (.pointer (some a))=(D.loadCells m a 6).map (fun cs=> .agg cs.toArray):=by kernel_rfl
theorem KK{m:M}{a:Addr}:ag TE m 89 (.pointer (some a))=(D.loadCells m a 5).map (fun cs=> .agg cs.toArray):=by kernel_rfl
theorem rO{m:M}{a:Addr}:ag TE m 98 (.pointer (some a))=(D.loadCells m a 2).map (fun cs=> .agg cs.toArray):=by kernel_rfl
theorem MS:TE.ty.get 102=some af.t102:=by kernel_rfl
theorem MR:TE.ty.get 105=some af.t105:=by kernel_rfl
theorem MQ:TE.ty.get 107=some af.t107:=by kernel_rfl
theorem GI:TE.ty.get 110=some af.t110:=by kernel_rfl
theorem vN:TE.ty.get 113=some af.t113:=by kernel_rfl
theorem se:TE.ty.get 115=some af.t115:=by kernel_rfl
theorem MP:TE.ty.get 133=some af.t133:=by kernel_rfl
theorem MO:TE.ty.get 166=some af.t166:=by kernel_rfl
theorem PD:TE.ty.get 22=some af.t22:=by kernel_rfl
theorem sd:TE.ty.get 236=some af.t236:=by kernel_rfl
theorem xT:TE.ty.get 25=some af.t25:=by kernel_rfl
theorem BV:TE.ty.get 27=some af.t27:=by kernel_rfl
theorem LZ:TE.ty.get 29=some af.t29:=by kernel_rfl
theorem nB:TE.ty.get 3=some af.t3:=by kernel_rfl
theorem uN:TE.ty.get 31=some af.t31:=by kernel_rfl
theorem DP:TE.ty.get 4=some af.t4:=by kernel_rfl
theorem BU:TE.ty.get 45=some af.t45:=by kernel_rfl
theorem PC:TE.ty.get 58=some af.t58:=by kernel_rfl
theorem GH:TE.ty.get 60=some af.t60:=by kernel_rfl
theorem eH:TE.ty.get 87=some af.t87:=by kernel_rfl
theorem FT:TE.ty.get 89=some af.t89:=by kernel_rfl
theorem cG:TE.ty.get 98=some af.t98:=by kernel_rfl
theorem Sr:TE.fn.get 7=some Tryz.f7:=by kernel_rfl
theorem Sq:TE.fn.get 9=some Tryz.f9:=by kernel_rfl
theorem QA:TE.fn.get 14=some Tryz.f14:=by kernel_rfl
theorem Qz:TE.fn.get 34=some Tryz.f34:=by kernel_rfl
theorem Ml:TE.fn.get 36=some Tryz.f36:=by kernel_rfl
theorem Qy:TE.fn.get 46=some Tryz.f46:=by kernel_rfl
theorem Qx:TE.fn.get 47=some Tryz.f47:=by kernel_rfl
theorem Qw:TE.fn.get 48=some Tryz.f48:=by kernel_rfl
theorem Qv:TE.fn.get 49=some Tryz.f49:=by kernel_rfl
theorem Qu:TE.fn.get 52=some Tryz.f52:=by kernel_rfl
theorem Qt:TE.fn.get 53=some Tryz.f53:=by kernel_rfl
theorem Qr:TE.fn.get 54=some Tryz.f54:=by kernel_rfl
theorem Qq:TE.fn.get 57=some Tryz.f57:=by kernel_rfl
theorem Qp:TE.fn.get 59=some Tryz.f59:=by kernel_rfl
theorem Qo:TE.fn.get 60=some Tryz.f60:=by kernel_rfl
theorem Qn:TE.fn.get 61=some Tryz.f61:=by kernel_rfl
theorem Qm:TE.fn.get 67=some Tryz.f67:=by kernel_rfl
theorem Ql:TE.fn.get 68=some Tryz.f68:=by kernel_rfl
theorem Qk:TE.fn.get 95=some Tryz.f95:=by kernel_rfl
theorem Qj:TE.fn.get 96=some Tryz.f96:=by kernel_rfl
theorem Qi:TE.fn.get 98=some Tryz.f98:=by kernel_rfl
theorem Qh:TE.fn.get 99=some Tryz.f99:=by kernel_rfl
theorem Oi:TE.fn.get 100=some Tryz.f100:=by kernel_rfl
theorem Oh:TE.fn.get 101=some Tryz.f101:=by kernel_rfl
theorem Og:TE.fn.get 102=some Tryz.f102:=by kernel_rfl
theorem Of:TE.fn.get 108=some Tryz.f108:=by kernel_rfl
theorem Oe:TE.fn.get 111=some Tryz.f111:=by kernel_rfl
theorem Od:TE.fn.get 119=some Tryz.f119:=by kernel_rfl
theorem Oc:TE.fn.get 120=some Tryz.f120:=by kernel_rfl
theorem Oa:TE.fn.get 121=some Tryz.f121:=by kernel_rfl
theorem N9:TE.fn.get 122=some Tryz.f122:=by kernel_rfl
theorem N8:TE.fn.get 123=some Tryz.f123:=by kernel_rfl
theorem N7:TE.fn.get 127=some Tryz.f127:=by kernel_rfl
theorem N6:TE.fn.get 128=some Tryz.f128:=by kernel_rfl
theorem N5:TE.fn.get 129=some Tryz.f129:=by kernel_rfl
theorem N4:TE.fn.get 130=some Tryz.f130:=by kernel_rfl
theorem N3:TE.fn.get 131=some Tryz.f131:=by kernel_rfl
theorem N2:TE.fn.get 132=some Tryz.f132:=by kernel_rfl
theorem N1:TE.fn.get 133=some Tryz.f133:=by kernel_rfl
theorem N0:TE.fn.get 134=some Tryz.f134:=by kernel_rfl
theorem NZ:TE.fn.get 135=some Tryz.f135:=by kernel_rfl
theorem NY:TE.fn.get 136=some Tryz.f136:=by kernel_rfl
theorem NX:TE.fn.get 153=some Tryz.f153:=by kernel_rfl
theorem NW:TE.fn.get 154=some Tryz.f154:=by kernel_rfl
theorem NV:TE.fn.get 155=some Tryz.f155:=by kernel_rfl
theorem NU:TE.fn.get 156=some Tryz.f156:=by kernel_rfl
theorem NT:TE.fn.get 157=some Tryz.f157:=by kernel_rfl
theorem NS:TE.fn.get 158=some Tryz.f158:=by kernel_rfl
theorem NR:TE.fn.get 159=some Tryz.f159:=by kernel_rfl
theorem NQ:TE.fn.get 160=some Tryz.f160:=by kernel_rfl
theorem NP:TE.fn.get 166=some Tryz.f166:=by kernel_rfl
theorem NO:TE.fn.get 167=some Tryz.f167:=by kernel_rfl
theorem NN:TE.fn.get 179=some Tryz.f179:=by kernel_rfl
theorem NM:TE.fn.get 180=some Tryz.f180:=by kernel_rfl
theorem NL:TE.fn.get 181=some Tryz.f181:=by kernel_rfl
theorem NK:TE.fn.get 182=some Tryz.f182:=by kernel_rfl
theorem NJ:TE.fn.get 185=some Tryz.f185:=by kernel_rfl
theorem NI:TE.fn.get 186=some Tryz.f186:=by kernel_rfl
theorem NH:TE.fn.get 188=some Tryz.f188:=by kernel_rfl
theorem NG:TE.fn.get 189=some Tryz.f189:=by kernel_rfl
theorem NF:TE.fn.get 190=some Tryz.f190:=by kernel_rfl
theorem ND:TE.fn.get 191=some Tryz.f191:=by kernel_rfl
theorem NC:TE.fn.get 210=some Tryz.f210:=by kernel_rfl
theorem NB:TE.fn.get 211=some Tryz.f211:=by kernel_rfl
theorem NA:TE.fn.get 212=some Tryz.f212:=by kernel_rfl
theorem Nz:TE.fn.get 213=some Tryz.f213:=by kernel_rfl
theorem Ny:TE.fn.get 214=some Tryz.f214:=by kernel_rfl
theorem Nx:TE.fn.get 248=some Tryz.f248:=by kernel_rfl
theorem Nw:TE.fn.get 261=some Tryz.f261:=by kernel_rfl
theorem Nv:TE.fn.get 287=some Tryz.f287:=by kernel_rfl
theorem Nu:TE.fn.get 289=some Tryz.f289:=by kernel_rfl
theorem Nt:TE.fn.get 301=some Tryz.f301:=by kernel_rfl
theorem Ns:TE.fn.get 302=some Tryz.f302:=by kernel_rfl
theorem Nr:TE.fn.get 330=some Tryz.f330:=by kernel_rfl
theorem Nq:TE.fn.get 331=some Tryz.f331:=by kernel_rfl
theorem Np:TE.fn.get 368=some Tryz.f368:=by kernel_rfl
theorem No:TE.fn.get 369=some Tryz.f369:=by kernel_rfl
end Go.Proofs.YtmdfgncoekfgdaaGreatDoor
namespace Go.Proofs.YtmdfgncoekfgdaaGreatDoor
open Go Go.D
set_option maxRecDepth 100000 in
theorem SK{W:Words}{x0 x1:Value}{m:M}{R:List Value->M->Nat->Prop}:dN TE W Tryz.f211 [x0,x1] m R=
(W.bB (.func 301) [x0,x1] m fun a b c=>W.ah (an TE .geq 3 a (.int .i64 0)) fun d=>R [d] b (min m.n c)):=by kernel_rfl
set_option maxRecDepth 100000 in
theorem SJ{W:Words}{x0:Value}{m:M}{R:List Value->M->Nat->Prop}:dN TE W Tryz.f212 [x0] m R=
(W.bW (M.push m (.cells (cells x0) 98 none)) fun a=>W.jn (fun b=>W.ah (ae TE 98 (ptrTo m.n) 0) fun c=>W.ah (ag TE a 3 c) fun d=>W.ah (ae TE 98 (ptrTo m.n) 1) fun f=>W.ah (ag TE a 3 f) fun g=>W.aO (aq TE a .min [3,3] [d,g]) fun h _=>W.ah (an TE .lss 3 h (.int .i64 0)) fun i=>aX i
(b [(.bool true)] a m.n)
(W.ah (ae TE 98 (ptrTo m.n) 0) fun j=>W.ah (ag TE a 3 j) fun k=>W.ah (ae TE 98 (ptrTo m.n) 1) fun l=>W.ah (ag TE a 3 l) fun n=>W.aO (aq TE a .max [3,3] [k,n]) fun o _=>W.ah (an TE .gtr 3 o (.int .i64 40)) fun p=>b [p] a m.n))
(fun q r s=>W.un q fun t u=>R [t] r s)):=by kernel_rfl
set_option maxRecDepth 100000 in
theorem S4{W:Words}{x0 x1 x2:Value}{m:M}{R:List Value->M->Nat->Prop}:dN TE W Tryz.f159 [x0,x1,x2] m R=
(W.bW (M.push m (.cells (cells x0) 98 none)) fun a=>W.bW (M.push a (.cells (cells x1) 98 none)) fun b=>W.bW (M.push b (.cells (cells x2) 98 none)) fun c=>W.ah (ae TE 98 (ptrTo a.n) 0) fun d=>W.ah (ag TE c 3 d) fun f=>W.ah (ae TE 98 (ptrTo m.n) 0) fun g=>W.ah (ag TE c 3 g) fun h=>W.ah (an TE .sub 3 f h) fun i=>W.ah (ae TE 98 (ptrTo b.n) 1) fun j=>W.ah (ag TE c 3 j) fun k=>W.ah (ae TE 98 (ptrTo m.n) 1) fun l=>W.ah (ag TE c 3 l) fun n=>W.ah (an TE .sub 3 k n) fun o=>W.ah (an TE .mul 3 i o) fun p=>W.ah (ae TE 98 (ptrTo a.n) 1) fun q=>W.ah (ag TE c 3 q) fun r=>W.ah (ae TE 98 (ptrTo m.n) 1) fun s=>W.ah (ag TE c 3 s) fun t=>W.ah (an TE .sub 3 r t) fun u=>W.ah (ae TE 98 (ptrTo b.n) 0) fun v=>W.ah (ag TE c 3 v) fun w=>W.ah (ae TE 98 (ptrTo m.n) 0) fun y=>W.ah (ag TE c 3 y) fun z=>W.ah (an TE .sub 3 w z) fun A=>W.ah (an TE .mul 3 u A) fun B=>W.ah (an TE .sub 3 p B) fun C=>R [C] c m.n):=by kernel_rfl
set_option maxRecDepth 100000 in
theorem S6{W:Words}{x0:Value}{m:M}{R:List Value->M->Nat->Prop}:dN TE W Tryz.f157 [x0] m R=
(W.jn (fun a=>W.aO (aq TE m .len [45] [x0]) fun b _=>W.ah (an TE .lss 3 b (.int .i64 3)) fun c=>aX c
(a [(.bool true)] m m.n)
(W.aO (aq TE m .len [45] [x0]) fun d _=>W.ah (an TE .gtr 3 d (.int .i64 8)) fun f=>aX f
(a [(.bool true)] m m.n)
(W.bB (.func 211) [x0,(.func (.func 212) #[] #[])] m fun g h i=>a [g] h (min m.n i))))
(fun j k l=>W.un j fun n o=>aX n
(R [(.bool false)] k l)
(W.aO (aq TE k .len [45] [x0]) fun p _=>W.Lp (fun q r s t=>W.un r fun u v=>W.un v fun w y=>W.ah (an TE .lss 3 w p) fun z=>aX z
(W.ah (ai TE 45 x0 w) fun A=>W.ah (ag TE s 98 A) fun B=>W.bW (M.push s (.cells [(.int .i64 0),(.int .i64 0)] 98 none)) fun C=>W.aO (aB TE C 98 (ptrTo s.n) B) fun D E=>W.ah (an TE .add 3 w (.int .i64 1)) fun F=>W.aO (aq TE D .len [45] [x0]) fun G _=>W.ah (an TE .rem 3 F G) fun H=>W.aO (aq TE D .len [45] [x0]) fun I _=>W.Lp (fun J K L N=>W.un K fun O P=>W.un P fun Q S=>W.ah (an TE .lss 3 Q I) fun T=>aX T
(W.ah (ai TE 45 x0 Q) fun U=>W.ah (ag TE L 98 U) fun V=>W.bW (M.push L (.cells [(.int .i64 0),(.int .i64 0)] 98 none)) fun X=>W.aO (aB TE X 98 (ptrTo L.n) V) fun Y Z=>W.jn (fun a0=>W.ah (an TE .neq 3 Q w) fun a1=>aX a1
(W.ah (an TE .neq 3 Q H) fun a2=>aX a2
(W.ah (ag TE Y 98 (ptrTo s.n)) fun a3=>W.ah (ai TE 45 x0 H) fun a4=>W.ah (ag TE Y 98 a4) fun a5=>W.ah (ag TE Y 98 (ptrTo L.n)) fun a6=>W.bB (.func 159) [a3,a5,a6] Y fun a7 a8 a9=>W.ah (an TE .leq 3 a7 (.int .i64 0)) fun b0=>a0 [b0] a8 (min (min N Z) a9))
(a0 [(.bool false)] Y (min N Z)))
(a0 [(.bool false)] Y (min N Z)))
(fun b1 b2 b3=>W.un b1 fun b4 b5=>aX b4
(R [(.bool false)] b2 b3)
(W.ah (an TE .add 3 Q (.int .i64 1)) fun b6=>J [O,b6] b2 b3)))
(W.ah (an TE .add 3 w (.int .i64 1)) fun b7=>q [O,b7] L N)) [u,(.int .i64 0)] D (min t E))
(R [(.bool true)] s t)) [(.bool false),(.int .i64 0)] k l))):=by kernel_rfl
set_option maxRecDepth 100000 in
theorem S5{W:Words}{x0:Value}{m:M}{R:List Value->M->Nat->Prop}:dN TE W Tryz.f158 [x0] m R=
(W.bW (M.push m (.cells (cells x0) 45 none)) fun a=>R [(.func (.func 213) #[] #[(ptrTo m.n)])] a m.n):=by kernel_rfl
set_option maxRecDepth 100000 in
theorem SI{W:Words}{x0 x1:Value}{m:M}{R:List Value->M->Nat->Prop}:dN TE W Tryz.f213 [x0,x1] m R=
(W.ah (ag TE m 45 x1) fun a=>W.aO (aq TE m .len [45] [a]) fun b _=>W.Lp (fun c d f g=>W.un d fun h i=>W.ah (an TE .lss 3 h b) fun j=>aX j
(W.ah (ai TE 45 a h) fun k=>W.ah (ag TE f 98 k) fun l=>W.bW (M.push f (.cells [(.int .i64 0),(.int .i64 0)] 98 none)) fun n=>W.aO (aB TE n 98 (ptrTo f.n) l) fun o p=>W.ah (ag TE o 98 (ptrTo f.n)) fun q=>W.ah (ag TE o 45 x1) fun r=>W.ah (an TE .add 3 h (.int .i64 1)) fun s=>W.ah (ag TE o 45 x1) fun t=>W.aO (aq TE o .len [45] [t]) fun u _=>W.ah (an TE .rem 3 s u) fun v=>W.ah (ai TE 45 r v) fun w=>W.ah (ag TE o 98 w) fun y=>ku x0 fun z A B=>W.bB z (A.toList++([q,y]++B.toList)) o fun C D E=>W.ah (iO .not C) fun F=>aX F
(R [] D (min (min g p) E))
(W.ah (an TE .add 3 h (.int .i64 1)) fun G=>c [G] D (min (min g p) E)))
(R [] f g)) [(.int .i64 0)] m m.n):=by kernel_rfl
set_option maxRecDepth 100000 in
theorem SQ{W:Words}{x0 x1:Value}{m:M}{R:List Value->M->Nat->Prop}:dN TE W Tryz.f186 [x0,x1] m R=
(W.bB (.func 289) [x0] m fun a b c=>W.bB (.func 289) [x1] b fun d f g=>aX a
(aX d
(R [(.int .i64 0)] f (min (min m.n c) g))
(R [(.int .i64 (-1))] f (min (min m.n c) g)))
(aX d
(R [(.int .i64 1)] f (min (min m.n c) g))
(W.ah (an TE .lss 3 x0 x1) fun h=>aX h
(R [(.int .i64 (-1))] f (min (min m.n c) g))
(W.ah (an TE .gtr 3 x0 x1) fun i=>aX i
(R [(.int .i64 1)] f (min (min m.n c) g))
(R [(.int .i64 0)] f (min (min m.n c) g)))))):=by kernel_rfl
set_option maxRecDepth 100000 in
theorem SD{W:Words}{x0:Value}{m:M}{R:List Value->M->Nat->Prop}:dN TE W Tryz.f289 [x0] m R=
(W.ah (an TE .neq 3 x0 x0) fun a=>R [a] m m.n):=by kernel_rfl
set_option maxRecDepth 100000 in
theorem SY{W:Words}{x0 x1:Value}{m:M}{R:List Value->M->Nat->Prop}:dN TE W Tryz.f179 [x0,x1] m R=
(W.bW (M.push m (.cells (cells x1) 98 none)) fun a=>W.bW (M.push a (.cells [(.int .i64 0)] 3 none)) fun b=>W.aO (aB TE b 3 (ptrTo a.n) (.int .i64 4611686018427387903)) fun c d=>W.bB (.func 158) [x0] c fun f g h=>ku f fun i j k=>W.RF i j.toList k.toList g (min (min m.n d) h) (fun l n o=>W.un l fun p q=>W.un q fun r s=>W.vM s (W.bW (M.push n (.cells [(.int .i64 0),(.int .i64 0)] 98 none)) fun t=>W.aO (aB TE t 98 (ptrTo n.n) p) fun u v=>W.bW (M.push u (.cells [(.int .i64 0),(.int .i64 0)] 98 none)) fun w=>W.aO (aB TE w 98 (ptrTo u.n) r) fun y z=>W.HA g.n n y fun A=>W.ah (ag TE A 3 (ptrTo a.n)) fun B=>W.ah (ag TE A 98 (ptrTo n.n)) fun C=>W.ah (ag TE A 98 (ptrTo u.n)) fun D=>W.ah (ag TE A 98 (ptrTo m.n)) fun E=>W.bB (.func 159) [C,D,E] A fun F G H=>(M.n A<=H)/\(W.aO (aq TE G .min [3,3] [B,F]) fun I _=>W.aO (aB TE G 3 (ptrTo a.n) I) fun J K=>o A .normal J (min (min (min (min (min n.n v) z) g.n) H) K)))) (fun L N=>W.ah (ag TE L 3 (ptrTo a.n)) fun O=>W.bB (.func 186) [O,(.int .i64 0)] L fun P Q S=>R [P] Q (min N S)) []):=by kernel_rfl
set_option maxRecDepth 100000 in
theorem Tp{W:Words}{x0 x1 x2:Value}{m:M}{R:List Value->M->Nat->Prop}:dN TE W Tryz.f119 [x0,x1,x2] m R=
(W.jn (fun a=>W.bB (.func 157) [x0] m fun b c d=>W.ah (iO .not b) fun f=>aX f
(a [(.bool true)] c (min m.n d))
(W.aO (aq TE c .min [3,3] [x1,x2]) fun g _=>W.ah (an TE .lss 3 g (.int .i64 0)) fun h=>aX h
(a [(.bool true)] c (min m.n d))
(W.aO (aq TE c .max [3,3] [x1,x2]) fun i _=>W.ah (an TE .geq 3 i (.int .i64 40)) fun j=>a [j] c (min m.n d))))
(fun k l n=>W.un k fun o p=>aX o
(R [(.int .i64 (-1))] l n)
(W.bB (.func 155) [x0] l fun q r s=>W.aO (aq TE r .len [45] [q]) fun t _=>W.Lp (fun u v w y=>W.un v fun z A=>W.ah (an TE .lss 3 z t) fun B=>aX B
(W.ah (ai TE 45 q z) fun C=>W.ah (ae TE 98 C 0) fun D=>W.ah (ag TE w 3 D) fun E=>W.ah (an TE .mul 3 E (.int .i64 2)) fun F=>W.ah (ai TE 45 q z) fun G=>W.ah (ae TE 98 G 0) fun H=>W.aO (aB TE w 3 H F) fun I J=>W.ah (ai TE 45 q z) fun K=>W.ah (ae TE 98 K 1) fun L=>W.ah (ag TE I 3 L) fun N=>W.ah (an TE .mul 3 N (.int .i64 2)) fun O=>W.ah (ai TE 45 q z) fun P=>W.ah (ae TE 98 P 1) fun Q=>W.aO (aB TE I 3 Q O) fun S T=>W.ah (an TE .add 3 z (.int .i64 1)) fun U=>u [U] S (min (min y J) T))
(W.ah (an TE .mul 3 (.int .i64 2) x1) fun V=>W.ah (an TE .add 3 V (.int .i64 1)) fun X=>W.ah (an TE .mul 3 (.int .i64 2) x2) fun Y=>W.ah (an TE .add 3 Y (.int .i64 1)) fun Z=>W.ah (aW TE 98 [(0,X),(1,Z)]) fun a0=>W.bB (.func 179) [q,a0] w fun a1 a2 a3=>R [a1] a2 (min y a3))) [(.int .i64 0)] r (min n s)))):=by kernel_rfl
set_option maxRecDepth 100000 in
theorem S8{W:Words}{x0:Value}{m:M}{R:List Value->M->Nat->Prop}:dN TE W Tryz.f155 [x0] m R=
(W.ah (an TE .eql 45 x0 (.slice none 0 0)) fun a=>aX a
(R [(.slice none 0 0)] m m.n)
(W.aO (aE TE m 45 0 []) fun b c=>W.aO (aq TE (M.wl c c.n) .append [45,45] [b,x0]) fun d f=>R [d] f (min m.n (M.low f)))):=by kernel_rfl
end Go.Proofs.YtmdfgncoekfgdaaGreatDoor
namespace Go.Proofs.YtmdfgncoekfgdaaGreatDoor
open Go Go.D
structure dF(X:aF):Prop where
 no:∀f,(Nat.beq f 8 ||Nat.beq f 79 ||Nat.beq f 144 ||Nat.beq f 141 ||Nat.beq f 77 ||Nat.beq f 103 ||Nat.beq f 367 ||Nat.beq f 183 ||Nat.beq f 362 ||Nat.beq f 280 ||Nat.beq f 117)=false->OS X f
abbrev C(X:aF):=Cl TE X
structure Pl where
 x:Int
 y:Int
deriving DecidableEq
def Pl.c(p:Pl):List Value:=[.int .i64 p.x,.int .i64 p.y]
abbrev Pl.v(p:Pl):Value:=.agg #[.int .i64 p.x,.int .i64 p.y]
instance:aY Pl where
 ty:=98
 sz:=2
 agg:=true
 jN:=[]
 rep _ p cs:=cs=p.c
 pos:=by decide
 one:=by intro h;cases h
 len:=by rintro _ _ _ rfl;rfl
 lO:=by rintro _ _ _ rfl;rfl
 bw:=by rintro _ _ _ _ rfl _;rfl
theorem cF:uJ TE 45 98 Pl:=⟨af.t45,af.t98,by kernel_rfl,⟨_,rfl⟩,rfl,by kernel_rfl,rfl,rfl⟩
theorem JM:BH TE 45 Pl:=⟨af.t45,af.t98,by kernel_rfl,rfl,rfl,by kernel_rfl,by decide,rfl⟩
instance:aY Int where
 ty:=3
 sz:=1
 agg:=false
 jN:=[]
 rep _ n cs:=cs=[.int .i64 n]
 pos:=by decide
 one:=by intro _;rfl
 len:=by rintro _ _ _ rfl;rfl
 lO:=by rintro _ _ _ rfl;rfl
 bw:=by rintro _ _ _ _ rfl _;rfl
theorem iS:uJ TE 25 3 Int:=⟨af.t25,af.t3,by kernel_rfl,⟨_,rfl⟩,rfl,by kernel_rfl,rfl,rfl⟩
theorem rV:BH TE 25 Int:=⟨af.t25,af.t3,by kernel_rfl,rfl,rfl,by kernel_rfl,by decide,rfl⟩
def idx{α:Type}(p:α->Bool):List α->Int
 |[]=> -1
 |x::l=>if p x then 0 else match idx p l with |.ofNat n=>n+1 |.negSucc _=> -1
theorem mR{α:Type}(p:α->Bool):∀l:List α,(idx p l= -1/\∀x∈l,p x=false)\/(∃i x,idx p l=(i:Nat)/\l[i]?=some x/\p x=true/\∀j y,j < i->l[j]?=some y->p y=false)
 |[]=> .inl ⟨rfl,fun _ h=>by cases h⟩
 |x::l=>by
  cases hp:p x with
  |true=>exact .inr ⟨0,x,by simp[idx,hp],rfl,hp,fun j y hj=>by omega⟩
  |false=>
   rcases mR p l with⟨h1,h2⟩ |⟨i,y,h1,h2,h3,h4⟩
   ·refine .inl ⟨by simp only[idx,hp,h1];rfl,fun z hz=>?_⟩
    rcases List.mem_cons.1 hz with rfl |hz
    ·exact hp
    ·exact h2 z hz
   ·refine .inr ⟨i+1,y,by simp only[idx,hp,h1];rfl,by simpa using h2,h3,fun j z hj hz=>?_⟩
    cases j with
    |zero=>simp at hz;subst hz;exact hp
    |succ j=>exact h4 j z (by omega) (by simpa using hz)
theorem KZ{α:Type}{p:α->Bool}{l:List α}{i:Nat}{x:α}(hx:l[i]?=some x)(hp:p x=true)(h:∀j y,j < i->l[j]?=some y->p y=false):idx p l=i:=by
 rcases mR p l with⟨h1,h2⟩ |⟨k,y,h1,h2,h3,h4⟩
 ·rw[h2 x (List.mem_of_getElem? hx)]at hp;cases hp
 ·have:i=k:=by
   rcases Nat.lt_trichotomy i k with hlt |he |hlt
   ·rw[h4 i x hlt hx]at hp;cases hp
   ·exact he
   ·rw[h k y hlt h2]at h3;cases h3
  rw[h1,this]
theorem Ig{α:Type}{p:α->Bool}{l:List α}(h:∀x∈l,p x=false):idx p l= -1:=by
 rcases mR p l with⟨h1,h2⟩ |⟨k,y,h1,h2,h3,h4⟩
 ·exact h1
 ·rw[h y (List.mem_of_getElem? h2)]at h3;cases h3
theorem AS{α:Type}{p:α->Bool}{l:List α}:decide (0<=idx p l)=l.any p:=by
 rcases mR p l with⟨h1,h2⟩ |⟨k,y,h1,h2,h3,h4⟩
 ·rw[h1]
  have:l.any p=false:=by rw[List.any_eq_false];intro x hx;rw[h2 x hx];simp
  rw[this];rfl
 ·have:l.any p=true:=List.any_eq_true.2 ⟨y,List.mem_of_getElem? h2,h3⟩
  rw[this,h1];simp
abbrev Lb(T t:TypeId)(W:Words)(x0 x1:Value)(m:M)(R:List Value->M->Nat->Prop):Prop:=
(W.aO (aq TE m .len [T] [x0]) fun v1 _=>(W.Lp (fun P2 vs3 m4 lo5=>W.un vs3 fun v6 r7=>W.un r7 fun v8 r9=>(W.ah (an TE .lss 3 v8 v1) fun v10=>(aX v10
(W.ah (ai TE T x0 v8) fun v11=>(W.ah (ag TE m4 t v11) fun v12=>(ku x1 fun g13 f14 c15=>(W.bB g13 (f14.toList++([v12]++c15.toList)) m4 fun v16 m17 b18=>(aX v16
(R [v8] m17 (min lo5 b18))
(W.ah (an TE .add 3 v8 (.int .i64 1)) fun v19=>(P2 [v6,v19] m17 (min lo5 b18))))))))
(R [(.int .i64 (-1))] m4 lo5)))) [(.int .i64 0),(.int .i64 0)] m (M.n m)))
theorem La{W:Words}{x0 x1:Value}{m:M}{R:List Value->M->Nat->Prop}:dN TE W Tryz.f301 [x0,x1] m R=Lb 45 98 W x0 x1 m R:=by kernel_rfl
theorem wH{X:aF}{T t:TypeId}{α:Type}[aY α](hT:uJ TE T t α){m:M}{l:List α}{v:Value}{g:Fn}{fi ca:Array Value}{R:List Value->M->Nat->Prop}(J:Nat->M->Nat->Prop)(Hit:Nat->M->Nat->Prop)(p:Nat->Bool)(hb:l.length < 4611686018427387904)
  (hl:∀i m lo,J i m lo->Sl m l v)
  (hs:∀i x m1 lo1,l[i]?=some x->J i m1 lo1->∀cs,aY.rep m1 x cs->∃b m2,C X g (fi.toList++([aY.val α cs]++ca.toList)) m1 b (.bool (p i)) m2/\(p i=true->Hit i m2 (min lo1 b))/\(p i=false->J (i+1) m2 (min lo1 b)))
  (h0:J 0 m m.n) (hR1:∀i m2 eZ,i < l.length->p i=true->Hit i m2 eZ->R [.int .i64 i] m2 eZ) (hR2:∀m2 eZ,J l.length m2 eZ->R [.int .i64 (-1)] m2 eZ):
  Lb T t (aN TE X) v (.func g fi ca) m R:=by
 dsimp only[Lb,aN]
 rw[(hl 0 m m.n h0).len hT,au]
 refine Lp.intro (γ:=Nat) (fun i=>l.length-i) (fun i vs m lo=>∃w,vs=[w,.int .i64 i]/\i<=l.length/\J i m lo) 0 ⟨_,rfl,Nat.zero_le _,h0⟩ ?_
 rintro i vs m1 lo1 ⟨w,rfl,hi,hJ⟩
 simp only[aA,aM,aa,aj]
 refine ak (fun h=>?_) (fun h=>?_)
 ·have hlt:i < l.length:=by simpa using h
  have hx:l[i]?=some l[i]:=List.getElem?_eq_getElem hlt
  obtain⟨a,cs,e1,e2,hr⟩:=(hl i m1 lo1 hJ).index hT (k:=.i64) hx
  rw[e1,aa,e2,aa,bO]
  obtain⟨b,m2,hc,hh1,hh2⟩:=hs i _ m1 lo1 hx hJ cs hr
  refine aC hc ?_
  rw[aj]
  refine ak (fun hp=>?_) (fun hp=>?_)
  ·exact hR1 i _ _ hlt hp (hh1 hp)
  ·simp only[aG,aa]
   refine⟨i+1,by omega,w,?_,hlt,hh2 hp⟩
   rw[wrap64 (by omega) (by omega)]
   rfl
 ·have hge:i=l.length:=by
   have:¬((i:Int)< (l.length:Int)):=by simpa using h
   omega
  subst hge
  exact hR2 _ _ hJ
theorem wI{X:aF}{T t:TypeId}{α:Type}[aY α](hT:uJ TE T t α){f:Nat}{fn:Func}(hX:OS X f)(hf:TE.fn.get f=some fn)(hn:Nat.ble 2 fn.ntmps=true)
  (hF:∀{W:Words} {x0 x1:Value} {m:M} {R:List Value->M->Nat->Prop},dN TE W fn [x0,x1] m R=Lb T t W x0 x1 m R)
  {m:M} {l:List α} {v:Value} {g:Fn} {fi ca:Array Value} (p:α->Bool) (hb:l.length < 4611686018427387904) (hl:Sl m l v)
  (hs:∀x∈l,∀cs,aY.rep m x cs->C X g (fi.toList++([aY.val α cs]++ca.toList)) m m.n (.bool (p x)) m):
  C X (.func f) [v,.func g fi ca] m m.n (.int .i64 (idx p l)) m:=by
 refine Cl.flat hX hf hn rfl ?_
 rw[hF]
 refine wH hT (l:=l) (fun i m1 lo=>m1=m/\lo=m.n/\∀j x,j < i->l[j]?=some x->p x=false) (fun i m1 lo=>m1=m/\lo=m.n/\(∀j x,j < i->l[j]?=some x->p x=false)) (fun i=>match l[i]? with |some x=>p x |none=>false) hb ?_ ?_ ⟨rfl,rfl,fun j x hj=>by omega⟩ ?_ ?_
 ·rintro i m1 lo ⟨rfl,_,_⟩;exact hl
 ·rintro i x m1 lo hx ⟨rfl,rfl,hJ⟩ cs hr
  rw[hx]
  refine⟨_,_,hs x (List.mem_of_getElem? hx) cs hr,fun _=>⟨rfl,Nat.min_self _,hJ⟩,fun hp=>⟨rfl,Nat.min_self _,fun j y hj hy=>?_⟩⟩
  by_cases e:j=i
  ·subst e;rw[hx]at hy;cases hy;exact hp
  ·exact hJ j y (by omega) hy
 ·rintro i m2 eZ hlt hp ⟨rfl,rfl,hJ⟩
  have hx:l[i]?=some l[i]:=List.getElem?_eq_getElem hlt
  rw[hx]at hp
  exact⟨by rw[bs,KZ hx hp hJ],Nat.le_refl _⟩
 ·rintro m2 eZ ⟨rfl,rfl,hJ⟩
  exact⟨by rw[bs,Ig fun x hx=>by obtain⟨j,hj⟩:=List.mem_iff_getElem?.1 hx;exact hJ j x (List.getElem?_eq_some_iff.1 hj).1 hj],Nat.le_refl _⟩
theorem AR{X:aF}(hX:dF X){m:M}{l:List Pl}{v:Value}{g:Fn}{fi ca:Array Value}(p:Pl->Bool)(hb:l.length < 4611686018427387904)(hl:Sl m l v)
  (hs:∀x∈l,C X g (fi.toList++([x.v]++ca.toList)) m m.n (.bool (p x)) m):C X (.func 301) [v,.func g fi ca] m m.n (.int .i64 (idx p l)) m:=
 wI cF (hX.no _ rfl) Nt rfl La p hb hl fun x hx cs hr=>by rw[show cs=x.c from hr];exact hs x hx
theorem nu{X:aF}(hX:dF X){m:M}{l:List Pl}{v:Value}{g:Fn}{fi ca:Array Value}(p:Pl->Bool)(hb:l.length < 4611686018427387904)(hl:Sl m l v)
  (hs:∀x∈l,C X g (fi.toList++([x.v]++ca.toList)) m m.n (.bool (p x)) m):C X (.func 211) [v,.func g fi ca] m m.n (.bool (l.any p)) m:=by
 refine Cl.flat (hX.no _ rfl) NB rfl rfl ?_
 rw[show dN TE (aN TE X) Tryz.f211 _ m _=_ from SK]
 dsimp only[aN]
 refine aC (AR hX p hb hl hs) ?_
 simp only[cR,aa,AS,bs]
 exact⟨trivial,by omega⟩
end Go.Proofs.YtmdfgncoekfgdaaGreatDoor
namespace Go.Proofs.YtmdfgncoekfgdaaGreatDoor
open Go Go.D
variable {X:aF} {m:M}
theorem cq{G:(List Value->M->Nat->Prop)->Prop}{k:List Value->M->Nat->Prop}(Q:List Value->M->Nat->Prop)(h1:∀R:List Value->M->Nat->Prop,(∀vs m lo,Q vs m lo->R vs m lo)->G R)(h2:∀vs m lo,Q vs m lo->k vs m lo):jn G k:=h1 k h2
theorem kU{k:IntKind}{a b:Int}{ts:List TypeId}:aq TE m .min ts [.int k a,.int k b]=some (.int k (min a b),m):=by
 show some (Value.int k (if b < a then b else a),m)=_
 congr 2
 congr 1
 split <;>omega
theorem jT{k:IntKind}{a b:Int}{ts:List TypeId}:aq TE m .max ts [.int k a,.int k b]=some (.int k (max a b),m):=by
 show some (Value.int k (if b >a then b else a),m)=_
 congr 2
 congr 1
 split <;>omega
theorem bz{b:Nat}{p:Pl}{e:TypeId}{g:Option Nat}(h:m.get b=.cells p.c e g):ag TE m 98 (.pointer (some ⟨b,0,none⟩))=some p.v:=by
 rw[rO,aH h (by simp[Pl.c])];rfl
def bE(a b c:Pl):Int:=(b.x-a.x)*(c.y-a.y)-(b.y-a.y)*(c.x-a.x)
def BQ(x:Int):Int:=IntKind.i64.wrap x
def BX(a b c:Pl):Int:=BQ (BQ (BQ (b.x-a.x)*BQ (c.y-a.y))-BQ (BQ (b.y-a.y)*BQ (c.x-a.x)))
theorem Kq(hX:dF X)(a b c:Pl):C X (.func 159) [a.v,b.v,c.v] m m.n (.int .i64 (BX a b c)) m:=by
 refine Cl.flat (hX.no _ rfl) NR rfl rfl ?_
 rw[S4];dsimp only[aN]
 refine ar fun m1 hn1 hg1 hk1=>?_
 refine ar fun m2 hn2 hg2 hk2=>?_
 refine ar fun m3 hn3 hg3 hk3=>?_
 have g1:=(hk3 m.n (by omega)).trans ((hk2 m.n (by omega)).trans hg1)
 have g2:=(hk3 m1.n (by omega)).trans hg2
 simp only[aL]at g1 g2 hg3
 simp only[aa,au,bO,aj,bZ,aU,dk,aM,cR,cQ,bI,cE,bD,ptrTo,ff,ef,Nat.zero_add,Nat.reduceAdd,List.getElem?_cons_zero,List.getElem?_cons_succ,List.drop_zero,List.drop_succ_cons,List.take_succ_cons,List.take_zero,Option.map_some,aL,fj,ew,dJ,fg,fh,eu,bC,bJ,bA,az g1,az g2,az hg3,dc,dt]
 exact⟨rfl,Nat.le_refl _⟩
def Pl.sm(N:Int)(p:Pl):Prop:= -N<=p.x/\p.x<=N/\ -N<=p.y/\p.y<=N
theorem ji{a b N:Int}(ha: -N<=a)(ha':a<=N)(hb: -N<=b)(hb':b<=N): -(N*N)<=a*b/\a*b<=N*N:=by
 have h0:0<=N:=by omega
 have h1:0<=(N-a)*(N+b):=Int.mul_nonneg (by omega) (by omega)
 have h2:0<=(N+a)*(N-b):=Int.mul_nonneg (by omega) (by omega)
 have h3:0<=(N-a)*(N-b):=Int.mul_nonneg (by omega) (by omega)
 have h4:0<=(N+a)*(N+b):=Int.mul_nonneg (by omega) (by omega)
 constructor <;>grind
theorem xU{a b c:Pl}(ha:a.sm 1000000)(hb:b.sm 1000000)(hc:c.sm 1000000):BX a b c=bE a b c:=by
 obtain⟨a1,a2,a3,a4⟩:=ha
 obtain⟨b1,b2,b3,b4⟩:=hb
 obtain⟨c1,c2,c3,c4⟩:=hc
 have p:=ji (a:=b.x-a.x) (b:=c.y-a.y) (N:=2000000) (by omega) (by omega) (by omega) (by omega)
 have q:=ji (a:=b.y-a.y) (b:=c.x-a.x) (N:=2000000) (by omega) (by omega) (by omega) (by omega)
 unfold BX bE BQ
 rw[wrap64 (x:=b.x-a.x) (by omega) (by omega),wrap64 (x:=c.y-a.y) (by omega) (by omega),wrap64 (x:=b.y-a.y) (by omega) (by omega),wrap64 (x:=c.x-a.x) (by omega) (by omega)]
 rw[wrap64 (x:=(b.x-a.x)*(c.y-a.y)) (by omega) (by omega),wrap64 (x:=(b.y-a.y)*(c.x-a.x)) (by omega) (by omega),wrap64 (by omega) (by omega)]
def Pl.off(p:Pl):Bool:=decide (min p.x p.y < 0) ||decide (40 < max p.x p.y)
theorem Pl.on{p:Pl}(h:p.off=false):0<=p.x/\p.x<=40/\0<=p.y/\p.y<=40:=by
 simp only[Pl.off,Bool.or_eq_false_iff,decide_eq_false_iff_not]at h
 omega
theorem Pl.Hz{p:Pl}(h:p.off=false):p.sm 1000000:=by
 have:=Pl.on h
 exact⟨by omega,by omega,by omega,by omega⟩
theorem Ib(hX:dF X)(p:Pl):C X (.func 212) [p.v] m m.n (.bool p.off) m:=by
 refine Cl.flat (hX.no _ rfl) NA rfl rfl ?_
 rw[SJ];dsimp only[aN]
 refine ar fun m1 hn1 hg1 hk1=>?_
 simp only[aL]at hg1
 refine cq (fun vs m2 lo=>vs=[.bool p.off]/\lo=m.n) (fun R hR=>?_) ?_
 ·simp only[aa,au,bO,aj,bZ,aU,dk,aM,cR,cQ,bI,cE,bD,ptrTo,ff,ef,Nat.zero_add,Nat.reduceAdd,List.getElem?_cons_zero,List.getElem?_cons_succ,List.drop_zero,List.drop_succ_cons,List.take_succ_cons,List.take_zero,Option.map_some,aL,fj,ew,dJ,fg,fh,eu,bC,bJ,bA,az hg1,kU,jT]
  refine ak (fun h=>hR _ _ _ ⟨by simp only[Pl.off,h];rfl,rfl⟩) (fun h=>hR _ _ _ ⟨by simp only[Pl.off,h];rfl,rfl⟩)
 ·rintro _ m2 _ ⟨rfl,rfl⟩
  rw[aA]
  exact⟨rfl,Nat.le_refl _⟩
def Hf(l:List Pl)(i:Nat):Bool:=match l[i]?,l[(i+1)%l.length]? with
 |some a,some b=>l.zipIdx.all fun(c,k)=>k==i ||k==(i+1)%l.length ||decide (0 < bE a b c)
 |_,_=>false
def lD(l:List Pl):Bool:=(List.range l.length).all (Hf l)
def aP(l:List Pl):Bool:=decide (3<=l.length) && decide (l.length<=8) && !(l.any Pl.off) && lD l
theorem cC{l:List Pl}(h:aP l=true):3<=l.length/\l.length<=8:=by
 simp only[aP,Bool.and_eq_true,decide_eq_true_eq]at h
 exact⟨h.1.1.1,h.1.1.2⟩
theorem kl{l:List Pl}(h:aP l=true):∀p∈l,p.off=false:=by
 simp only[aP,Bool.and_eq_true,Bool.not_eq_true',List.any_eq_false]at h
 intro p hp
 simpa using h.1.2 p hp
theorem dI{l:List Pl}(h:aP l=true):∀p∈l,p.sm 1000000:=fun p hp=>Pl.Hz (kl h p hp)
theorem oJ{l:List Pl}{i:Nat}{a b:Pl}(ha:l[i]?=some a)(hb:l[(i+1)%l.length]?=some b):
  Hf l i=true↔∀k c,l[k]?=some c->k=i\/k=(i+1)%l.length\/0 < bE a b c:=by
 unfold Hf
 rw[ha,hb]
 simp only[List.all_eq_true]
 constructor
 ·intro h k c hc
  have:=h (c,k) (by rw[List.mem_zipIdx_iff_getElem?];exact hc)
  simpa[or_assoc]using this
 ·rintro h ⟨c,k⟩ hc
  rw[List.mem_zipIdx_iff_getElem?]at hc
  simpa[or_assoc]using h k c hc
theorem kK{l:List Pl}(h:aP l=true){i k:Nat}{a b c:Pl}(ha:l[i]?=some a)(hb:l[(i+1)%l.length]?=some b)(hc:l[k]?=some c)(h1:k≠i)(h2:k≠(i+1)%l.length):0 < bE a b c:=by
 simp only[aP,Bool.and_eq_true,lD,List.all_eq_true,List.mem_range]at h
 have hr:=h.2 i (List.getElem?_eq_some_iff.1 ha).1
 rcases(oJ ha hb).1 hr k c hc with h |h |h
 ·exact absurd h h1
 ·exact absurd h h2
 ·exact h
end Go.Proofs.YtmdfgncoekfgdaaGreatDoor
namespace Go.Proofs.YtmdfgncoekfgdaaGreatDoor
open Go Go.D
variable {X:aF} {m:M}
theorem my(hX:dF X){a b c:Pl}(ha:a.sm 1000000)(hb:b.sm 1000000)(hc:c.sm 1000000):C X (.func 159) [a.v,b.v,c.v] m m.n (.int .i64 (bE a b c)) m:=by
 rw[<-xU ha hb hc];exact Kq hX a b c
theorem _root_.Go.D.Sl.dK{l:List Pl}{v:Value}(h:Sl m l v){i:Nat}{p:Pl}(hi:l[i]?=some p){k:IntKind}:∃a,ai TE 45 v (.int k i)=some a/\ag TE m 98 a=some p.v:=by
 obtain⟨a,cs,h1,h2,h3⟩:=h.index cF (k:=k) hi
 rw[show cs=p.c from h3]at h2
 exact⟨a,h1,h2⟩
theorem rK{t:TypeId}{a b:Nat}(hb:b≠0):an TE .rem t (.int .i64 a) (.int .i64 b)=some (.int .i64 ((a%b:Nat):Int)):=by
 rw[mZ (by omega)]
 rfl
theorem fw(hX:dF X){l:List Pl}{v:Value}(hl:Sl m l v)(hb:l.length < 4611686018427387904):C X (.func 157) [v] m m.n (.bool (aP l)) m:=by
 refine Cl.flat (hX.no _ rfl) NT rfl rfl ?_
 rw[S6];dsimp only[aN]
 refine cq (fun vs m2 lo=>vs=[.bool (!(decide (3<=l.length) && decide (l.length<=8) && !(l.any Pl.off)))]/\m=m2/\m.n=lo) (fun R hR=>?_) ?_
 ·rw[hl.len cF]
  simp only[aa,au,bO,aj,bZ,aU,dk,aM,cR,cQ,bI,cE,bD,ptrTo,ff,ef,Nat.zero_add,Nat.reduceAdd,List.getElem?_cons_zero,List.getElem?_cons_succ,List.drop_zero,List.drop_succ_cons,List.take_succ_cons,List.take_zero,Option.map_some,aL,fj,ew,dJ,fg,fh,eu]
  refine ak (fun h=>hR _ _ _ ⟨by
                      have:¬3<=l.length:=by simp at h;omega
                      simp[this],rfl,rfl⟩) (fun h=>?_)
  have h3:3<=l.length:=by simp at h;omega
  refine ak (fun h=>hR _ _ _ ⟨by
                      have:¬l.length<=8:=by simp at h;omega
                      simp[this],rfl,rfl⟩) (fun h=>?_)
  have h8:l.length<=8:=by simp at h;omega
  refine aC (nu hX Pl.off hb hl fun x _=>Ib hX x) ?_
  exact hR _ _ _ ⟨by simp[h3,h8],rfl,(Nat.min_self _).symm⟩
 ·rintro _ _ _ ⟨rfl,rfl,rfl⟩
  rw[aA,aj]
  refine ak (fun h=>?_) (fun h=>?_)
  ·refine⟨?_,Nat.le_refl _⟩
   simp only[Bool.not_eq_true']at h
   simp only[bs,aP,h,Bool.false_and]
  ·simp only[Bool.not_eq_false']at h
   simp only[Bool.and_eq_true,decide_eq_true_eq,Bool.not_eq_true']at h
   obtain⟨⟨h3,h8⟩,hoff⟩:=h
   have hon:∀p∈l,p.sm 1000000:=fun p hp=>Pl.Hz (by
    rw[List.any_eq_false]at hoff
    simpa using hoff p hp)
   have hv:∀r,lD l=r->aP l=r:=fun r hr=>by simp[aP,h3,h8,hoff,hr]
   rw[hl.len cF,au]
   refine Lp.intro (γ:=Nat) (fun i=>l.length-i) (fun i vs m1 lo=>vs=[.bool false,.int .i64 i]/\i<=l.length/\Ext m m1/\m.n<=lo/\∀j,j < i->Hf l j=true) 0 ⟨rfl,Nat.zero_le _,.refl,Nat.le_refl _,fun j hj=>by omega⟩ ?_
   rintro i vs m1 lo1 ⟨rfl,hi,hx,hlo,hrow⟩
   simp only[aA,aM,aa,aj]
   refine ak (fun hlt=>?_) (fun hge=>?_)
   ·have hlt:i < l.length:=by simpa using hlt
    obtain⟨pa,hpa⟩:∃p,l[i]?=some p:=⟨_,List.getElem?_eq_getElem hlt⟩
    have hnx:(i+1)%l.length < l.length:=Nat.mod_lt _ (by omega)
    obtain⟨pb,hpb⟩:∃p,l[(i+1)%l.length]?=some p:=⟨_,List.getElem?_eq_getElem hnx⟩
    obtain⟨q,e1,e2⟩:=(hl.aD hx).dK (k:=.i64) hpa
    rw[e1,aa,e2,aa]
    refine ar fun m2 hn2 hg2 hk2=>?_
    simp only[ptrTo]
    refine av cG hg2 rfl rfl rfl fun m3 hn3 hg3 hk3=>?_
    have hx3:Ext m m3:=⟨by have:=hx.n;omega,fun b hb=>by have:=hx.n;rw[hk3 b (by omega),hk2 b (by omega),hx.get b hb]⟩
    simp only[aG,aa]
    rw[wrap64 (by omega) (by omega),(hl.aD hx3).len cF,au]
    rw[show((i:Int)+1)=((i+1:Nat):Int) by omega,rK (by omega),aa,au]
    refine Lp.intro (γ:=Nat) (fun k=>l.length-k) (fun k vs m4 lo4=>vs=[.bool false,.int .i64 k]/\k<=l.length/\Ext m m4/\m1.n < m4.n/\m4.get m1.n=.cells pa.c 98 none/\m.n<=lo4/\∀j c,j < k->l[j]?=some c->j=i\/j=(i+1)%l.length\/0 < bE pa pb c) 0
     ⟨rfl,Nat.zero_le _,hx3,by omega,hg3,by have:=hx.n;omega,fun j c hj=>by omega⟩ ?_
    rintro k vs m4 lo4 ⟨rfl,hk,hx4,hn4,hg4,hlo4,hcor⟩
    simp only[aA,aM,aa,aj]
    refine ak (fun hlt2=>?_) (fun hge2=>?_)
    ·have hlt2:k < l.length:=by simpa using hlt2
     obtain⟨pc,hpc⟩:∃p,l[k]?=some p:=⟨_,List.getElem?_eq_getElem hlt2⟩
     obtain⟨q,e1,e2⟩:=(hl.aD hx4).dK (k:=.i64) hpc
     rw[e1,aa,e2,aa]
     refine ar fun m5 hn5 hg5 hk5=>?_
     refine av cG hg5 rfl rfl rfl fun m6 hn6 hg6 hk6=>?_
     have hx6:Ext m m6:=⟨by have:=hx4.n;omega,fun b hb=>by have:=hx4.n;rw[hk6 b (by omega),hk5 b (by omega),hx4.get b hb]⟩
     have hg46:m6.get m1.n=.cells pa.c 98 none:=by rw[hk6 _ (by omega),hk5 _ (by omega),hg4]
     refine cq (fun vs m7 lo=>vs=[.bool (!(k==i ||k==(i+1)%l.length ||decide (0 < bE pa pb pc)))]/\m7=m6/\m.n<=lo) (fun R hR=>?_) ?_
     ·simp only[cE,aa,aj]
      have hlo6:m.n<=min lo4 m4.n:=by have:=hx4.n;omega
      refine ak (fun hne=>?_) (fun he=>?_)
      ·have hne:k≠i:=by simp at hne;omega
       refine ak (fun hne2=>?_) (fun he2=>?_)
       ·have hne2:k≠(i+1)%l.length:=by intro e;rw[e]at hne2;simp at hne2
        rw[bz hg46,aa]
        obtain⟨q,e1,e2⟩:=(hl.aD hx6).dK (k:=.i64) hpb
        rw[e1,aa,e2,aa,bz hg6,aa]
        refine aC (my hX (hon _ (List.mem_of_getElem? hpa)) (hon _ (List.mem_of_getElem? hpb)) (hon _ (List.mem_of_getElem? hpc))) ?_
        simp only[dk,aa]
        refine hR _ _ _ ⟨?_,rfl,by have:=hx6.n;omega⟩
        have:decide (bE pa pb pc<=0)= !(decide (0 < bE pa pb pc)):=by by_cases h:bE pa pb pc<=0 <;>simp[h] <;>omega
        rw[this]
        simp[hne,hne2]
       ·refine hR _ _ _ ⟨?_,rfl,hlo6⟩
        have:k=(i+1)%l.length:=by
         have h':(k:Int)=(((i+1)%l.length:Nat):Int):=by simpa using he2
         omega
        simp[this]
      ·refine hR _ _ _ ⟨?_,rfl,hlo6⟩
       have:k=i:=by simp at he;omega
       simp[this]
     ·rintro _ m7 lo7 ⟨rfl,rfl,hlo7⟩
      rw[aA,aj]
      refine ak (fun hbad=>?_) (fun hgood=>?_)
      ·have hc:lD l=false:=by
        cases hc:lD l with
        |false=>rfl
        |true=>
         simp only[lD,List.all_eq_true,List.mem_range]at hc
         have h2:=(oJ hpa hpb).1 (hc i hlt) k pc hpc
         simp only[Bool.not_eq_true',Bool.or_eq_false_iff,beq_eq_false_iff_ne,decide_eq_false_iff_not]at hbad
         omega
       exact⟨by rw[hv false hc];rfl,hlo7⟩
      ·simp only[aG,aa]
       rw[wrap64 (by omega) (by omega)]
       refine⟨k+1,by omega,by simp,by omega,hx6,by omega,hg46,hlo7,fun j c hj hc=>?_⟩
       by_cases hjk:j < k
       ·exact hcor j c hjk hc
       ·have:j=k:=by omega
        subst this
        rw[hpc]at hc;cases hc
        simp only[Bool.not_eq_false',Bool.or_eq_true,beq_iff_eq,decide_eq_true_eq]at hgood
        omega
    ·have hk':k=l.length:=by
      have:¬(k:Int)< (l.length:Int):=by simpa using hge2
      omega
     refine⟨i+1,by omega,by simp,by omega,hx4,hlo4,fun j hj=>?_⟩
     by_cases hji:j < i
     ·exact hrow j hji
     ·have:j=i:=by omega
      subst this
      rw[oJ hpa hpb]
      intro q c hq
      exact hcor q c (by have:=(List.getElem?_eq_some_iff.1 hq).1;omega) hq
   ·have hi':i=l.length:=by
     have:¬(i:Int)< (l.length:Int):=by simpa using hge
     omega
    have hc:lD l=true:=List.all_eq_true.2 fun j hj=>hrow j (by rw[List.mem_range]at hj;omega)
    exact⟨by rw[hv true hc];rfl,hlo⟩
end Go.Proofs.YtmdfgncoekfgdaaGreatDoor
namespace Go.Proofs.YtmdfgncoekfgdaaGreatDoor
open Go Go.D
variable {X:aF} {m:M}
def gk(l:List Pl):List (List Value):=l.mapIdx fun i a=> [a.v,match l[(i+1)%l.length]? with |some b=>b.v |none=>undef]
theorem Jk{l:List Pl}{i:Nat}{a b:Pl}(ha:l[i]?=some a)(hb:l[(i+1)%l.length]?=some b):(gk l)[i]?=some [a.v,b.v]:=by
 unfold gk
 rw[List.getElem?_mapIdx,ha,Option.map_some,hb]
theorem kH{l:List Pl}{i:Nat}{args:List Value}(h:(gk l)[i]?=some args):∃a b,l[i]?=some a/\l[(i+1)%l.length]?=some b/\args=[a.v,b.v]:=by
 unfold gk at h
 rw[List.getElem?_mapIdx,Option.map_eq_some_iff]at h
 obtain⟨a,ha,h⟩:=h
 have hlt:=(List.getElem?_eq_some_iff.1 ha).1
 obtain⟨b,hb⟩:∃b,l[(i+1)%l.length]?=some b:=⟨_,List.getElem?_eq_getElem (Nat.mod_lt _ (by omega))⟩
 rw[hb]at h
 exact⟨a,b,ha,hb,h.symm⟩
theorem jo{l:List Pl}:(gk l).length=l.length:=by unfold gk;rw[List.length_mapIdx]
theorem kI(hX:dF X){l:List Pl}{v:Value}{b:Nat}(hlen:l.length < 4611686018427387904):
  OY TE X (fun _=>False) (.func 213) [] [ptrTo b] (gk l) (fun m=>m.get b=.cells [v] 45 none/\Sl m l v):=by
 intro y n0 B I J m hD hI hJ hy hn0 hB hyield h0
 refine Cl.gen (R:=fun v m2 b=>B<=b/\(I (gk l).length m2\/J m2)) (hX.no _ rfl) Nz rfl ?_
 rw[show([]:List Value)++ .func (.yield y) #[] #[]::[ptrTo b]=[.func (.yield y) #[] #[],ptrTo b]from rfl,SI];dsimp only[aN]
 have ld:∀m1:M,m1.get b=.cells [v] 45 none->ag TE m1 45 (.pointer (some ⟨b,0,none⟩))=some v:=fun m1 h=>by rw[mO,az h];rfl
 simp only[ptrTo]
 rw[ld m (hD _ _ h0).1,aa,(hD _ _ h0).2.len cF,au]
 refine Lp.intro (γ:=Nat) (fun i=>l.length-i) (fun i vs m1 lo=>vs=[.int .i64 i]/\i<=l.length/\I i m1/\n0<=m1.n/\B<=lo/\((i=0/\m1=m/\lo=m.n)\/lo < m.n)) 0 ⟨rfl,Nat.zero_le _,h0,hn0,by omega,.inl ⟨rfl,rfl,rfl⟩⟩ ?_
 rintro i vs m1 lo1 ⟨rfl,hi,hI1,hn1,hlo,hlow⟩
 simp only[aA,aM,aa,aj]
 refine ak (fun hlt=>?_) (fun hge=>?_)
 ·have hlt:i < l.length:=by simpa using hlt
  obtain⟨pa,hpa⟩:∃p,l[i]?=some p:=⟨_,List.getElem?_eq_getElem hlt⟩
  have hnx:(i+1)%l.length < l.length:=Nat.mod_lt _ (by omega)
  obtain⟨pb,hpb⟩:∃p,l[(i+1)%l.length]?=some p:=⟨_,List.getElem?_eq_getElem hnx⟩
  obtain⟨q,e1,e2⟩:=(hD _ _ hI1).2.dK (k:=.i64) hpa
  rw[e1,aa,e2,aa]
  refine ar fun m2 hn2 hg2 hk2=>?_
  refine av cG hg2 rfl rfl rfl fun m3 hn3 hg3 hk3=>?_
  have hx3:Ext m1 m3:=⟨by omega,fun b hb=>by rw[hk3 b (by omega),hk2 b hb]⟩
  have hI3:=hI _ _ _ hI1 hx3
  obtain⟨hb3,hs3⟩:=hD _ _ hI3
  rw[bz hg3,aa,ld m3 hb3,aa]
  simp only[aG,aa]
  rw[wrap64 (by omega) (by omega),hs3.len cF,au]
  rw[show((i:Int)+1)=((i+1:Nat):Int) by omega,rK (by omega),aa]
  obtain⟨q,e1,e2⟩:=hs3.dK (k:=.i64) hpb
  rw[e1,aa,e2,aa,bO]
  obtain⟨v2,m4,b4,hc,hB4,hy4,hfr,hres⟩:=hyield i [pa.v,pb.v] m3 (by omega) (Jk hpa hpb) hI3
  refine aC hc ?_
  have hn4:m3.n<=m4.n:=hc.1
  rcases hres with⟨rfl,hI4⟩ |⟨rfl,hJ4⟩
  ·simp only[bD,aa,aj,Bool.not_true,aU]
   exact⟨i+1,by omega,rfl,by omega,hI4,by omega,by omega,.inr (by omega)⟩
  ·simp only[bD,aa,aj,Bool.not_false,bZ]
   exact .inr ⟨.inr (by omega),by omega,.inr hJ4⟩
 ·have hi':i=l.length:=by
   have:¬(i:Int)< (l.length:Int):=by simpa using hge
   omega
  have hI1':I (gk l).length m1:=by rw[jo,<-hi'];exact hI1
  rcases hlow with⟨h1,h2,h3⟩ |hlow
  ·rw[h2]at hI1'
   exact .inl ⟨rfl,by omega,by omega,.inl hI1'⟩
  ·exact .inr ⟨.inr hlow,by omega,.inl hI1'⟩
theorem ma(hX:dF X){v:Value}(hv:cells v=[v]):∃m',C X (.func 158) [v] m m.n (.func (.func 213) #[] #[ptrTo m.n]) m'/\Ext m m'/\m'.n=m.n+1/\m'.get m.n=.cells [v] 45 none:=by
 obtain⟨v',m',b,hc,rfl,rfl,h⟩:=Cl.heap (R:=fun w m' b=>w=.func (.func 213) #[] #[ptrTo m.n]/\b=m.n/\Ext m m'/\m'.n=m.n+1/\m'.get m.n=.cells [v] 45 none) (hX.no _ rfl) NS rfl (m:=m) (args:=[v]) (by
  rw[S5];dsimp only[aN]
  refine ar fun m1 hn hg hk=>?_
  rw[hv]at hg
  exact⟨.inl rfl,rfl,by omega,⟨by omega,fun b hb=>hk b hb⟩,hn,hg⟩)
 exact⟨m',hc,h⟩
end Go.Proofs.YtmdfgncoekfgdaaGreatDoor
namespace Go.Proofs.YtmdfgncoekfgdaaGreatDoor
open Go Go.D
variable {X:aF} {m:M}
def iz(a b:Int):Int:=if a < b then -1 else if b < a then 1 else 0
theorem zu(hX:dF X)(a:Int):C X (.func 289) [.int .i64 a] m m.n (.bool false) m:=by
 refine Cl.flat (hX.no _ rfl) Nu rfl rfl ?_
 rw[SD];dsimp only[aN]
 simp only[cE,aa]
 exact⟨by simp[bs],Nat.le_refl _⟩
theorem lx(hX:dF X)(a b:Int):C X (.func 186) [.int .i64 a,.int .i64 b] m m.n (.int .i64 (iz a b)) m:=by
 refine Cl.flat (hX.no _ rfl) NI rfl rfl ?_
 rw[SQ];dsimp only[aN]
 refine aC (zu hX a) (aC (zu hX b) ?_)
 simp only[aj,aU,aM,cQ,aa]
 refine ak (fun h=>?_) (fun h=>?_)
 ·have:a < b:=by simpa using h
  exact⟨by simp[bs,iz,this],by omega⟩
 ·have h1:¬a < b:=by simpa using h
  refine ak (fun h=>?_) (fun h=>?_)
  ·have h2:b < a:=by simpa using h
   exact⟨by simp[bs,iz,h1,h2],by omega⟩
  ·have h2:¬b < a:=by simpa using h
   exact⟨by simp[bs,iz,h1,h2],by omega⟩
def qn(l:List Pl)(p:Pl):Nat->Int
 |0=>4611686018427387903
 |i+1=>match l[i]?,l[(i+1)%l.length]? with
  |some a,some b=>min (qn l p i) (bE a b p)
  |_,_=>qn l p i
def GZ(l:List Pl)(p:Pl):Int:=iz (qn l p l.length) 0
theorem Kt(hX:dF X){l:List Pl}{v:Value}{p:Pl}(hl:Sl m l v)(hb:l.length < 4611686018427387904)(hsm:∀a∈l,a.sm 1000000)(hp:p.sm 1000000):
  C X (.func 179) [v,p.v] m m.n (.int .i64 (GZ l p)) m:=by
 refine Cl.flat (hX.no _ rfl) NN rfl rfl ?_
 rw[SY];dsimp only[aN]
 refine ar fun m1 hn1 hg1 hk1=>?_
 refine ar fun m2 hn2 hg2 hk2=>?_
 simp only[aL]at hg1
 simp only[ptrTo]
 refine av nB hg2 rfl rfl rfl fun m3 hn3 hg3 hk3=>?_
 have g1:m3.get m.n=.cells p.c 98 none:=by rw[hk3 _ (by omega),hk2 _ (by omega),hg1];rfl
 have hx3:Ext m m3:=⟨by omega,fun b hb=>by rw[hk3 b (by omega),hk2 b (by omega),hk1 b hb]⟩
 obtain⟨m6,hc,hx6,hn6,hg6⟩:=ma (m:=m3) hX hl.cells
 refine aC hc ?_
 rw[bO]
 have g16:m6.get m.n=.cells p.c 98 none:=by rw[hx6.get _ (by omega),g1]
 have g26:m6.get m1.n=.cells [.int .i64 4611686018427387903] 3 none:=by rw[hx6.get _ (by omega),hg3];rfl
 have hl6:Sl m6 l v:=(hl.aD hx3).aD hx6
 refine⟨_,gk l,_,fun i mm=>m6.n<=mm.n/\(∀c,c < m6.n->c≠m1.n->mm.get c=m6.get c)/\mm.get m1.n=.cells [.int .i64 (qn l p i)] 3 none,fun _ _=>False,m.n,⟨_,rfl⟩,kI hX hb (v:=v) (b:=m3.n),by omega,?_,?_,?_,⟨Nat.le_refl _,fun _ _ _=>rfl,g26⟩,?_,?_,?_⟩
 ·rintro i mm ⟨h1,h2,h3⟩
  refine⟨by rw[h2 _ (by omega) (by omega),hg6],?_⟩
  refine hl.bw fun b c t g hb ht=>?_
  have:=M.aI hb
  rw[h2 b (by omega) (by omega),hx6.get b (by omega),hx3.get b this,hb]
 ·rintro i mm mm2 ⟨h1,h2,h3⟩ hk
  exact⟨by have:=hk.n;omega,fun c hc hne=>by rw[hk.get c (by omega) (by omega),h2 c hc hne],by rw[hk.get _ (by omega) (by omega),h3]⟩
 ·rintro e mm mm2 h;exact h.elim
 ·rintro i args m9 hn9 hx ⟨h1,h2,h3⟩
  obtain⟨pa,pb,hpa,hpb,rfl⟩:=kH hx
  rw[aA,aA]
  show vM [] _
  unfold vM
  refine ar fun m15 hn15 hg15 hk15=>?_
  refine av cG hg15 rfl rfl rfl fun m16 hn16 hg16 hk16=>?_
  refine ar fun m18 hn18 hg18 hk18=>?_
  refine av cG hg18 rfl rfl rfl fun m19 hn19 hg19 hk19=>?_
  have eO:∀c,c < m9.n->m19.get c=m9.get c:=fun c hc=>by rw[hk19 c (by omega),hk18 c (by omega),hk16 c (by omega),hk15 c hc]
  refine⟨fun c _ hc=>eO c hc,fun m21 hn21 hk21=>?_⟩
  have r1:m21.get m1.n=.cells [.int .i64 (qn l p i)] 3 none:=by rw[hk21 _ (by omega),eO _ (by omega),h3]
  have r2:m21.get m9.n=.cells pa.c 98 none:=by rw[hk21 _ (by omega),hk19 _ (by omega),hk18 _ (by omega),hg16];rfl
  have r3:m21.get m16.n=.cells pb.c 98 none:=by rw[hk21 _ (by omega),hg19];rfl
  have r4:m21.get m.n=.cells p.c 98 none:=by rw[hk21 _ (by omega),eO _ (by omega),h2 _ (by omega) (by omega),g16]
  dsimp only
  rw[bA,az r1]
  simp only[List.getElem?_cons_zero,aa]
  rw[bz r2,aa,bz r3,aa,bz r4,aa]
  refine aC (my hX (hsm _ (List.mem_of_getElem? hpa)) (hsm _ (List.mem_of_getElem? hpb)) hp) ⟨Nat.le_refl _,?_⟩
  rw[kU,au]
  refine av nB r1 rfl rfl rfl fun m30 hn30 hg30 hk30=>?_
  refine⟨by omega,fun c h1c h2c _=>hk30 c (by omega),?_⟩
  refine⟨by omega,fun c hc hne=>?_,?_⟩
  ·rw[hk30 c (by omega),hk21 c (by omega),eO c (by omega),h2 c hc hne]
  ·rw[hg30,qn,hpa,hpb];rfl
 ·rintro mm eZ ⟨h1,h2,h3⟩ hlo
  rw[bA,az h3]
  simp only[List.getElem?_cons_zero,aa]
  refine aC (lx hX _ _) ⟨by rw[jo];rfl,by omega⟩
 ·rintro e mm eZ _ h;exact h.elim
end Go.Proofs.YtmdfgncoekfgdaaGreatDoor
namespace Go.Proofs.YtmdfgncoekfgdaaGreatDoor
open Go Go.D
variable {X:aF} {m:M}
theorem mh:aE TE m 45 0 []=some (.slice (some ⟨m.n,0,none⟩) 0 0,m.push (.cells [] 98 none)):=by kernel_rfl
theorem tU(hX:dF X){l:List Pl}{v:Value}(hl:Sl m l v)(hne:l≠ [])(hs:l.length<=1000000):
  ∃v' m',C X (.func 155) [v] m m.n v' m'/\Ow m.n m' l v'/\Ext m m':=by
 have key:=Cl.heap (E:=TE) (X:=X) (f:=155) (args:=[v]) (m:=m) (R:=fun v' m' b=>b=m.n/\Ow m.n m' l v'/\Ext m m') (hX.no _ rfl) NV rfl ?_
 ·obtain⟨v',m',b,hc,rfl,h3⟩:=key
  exact⟨v',m',hc,h3⟩
 ·rw[S8];dsimp only[aN]
  have hnil:an TE .eql 45 v (.slice none 0 0)=some (.bool false):=by
   rcases hl with⟨_,rfl⟩ |⟨b,o,c,bc,g,rfl,_⟩
   ·exact absurd rfl hne
   ·simp only[an,eq?,BU,af.t45,Option.map_some]
  rw[hnil]
  simp only[aa,aj,aU]
  rw[mh,au]
  have he1:Ext m (m.push (.cells [] 98 none)):=Ext.refl.push
  obtain⟨v',m1,e1,hOw,he,hlow⟩:=re (m:=m.push (.cells [] 98 none)) JM (b:=m.n) M.aV (hl.aD he1) hne hs
  rw[e1,au]
  have hfl:=hOw.flat hne
  rw[M.vV]at hlow
  exact⟨.inl hfl,by omega,hOw.mono (by rw[M.vV];omega),he1.trans he⟩
def nJ(l:List Pl):List Value:=l.flatMap Pl.c
theorem ij{p:Pl}{l:List Pl}:nJ (p::l)=.int .i64 p.x::.int .i64 p.y::nJ l:=rfl
theorem iT:∀l:List Pl,(nJ l).length=l.length*2
 |[]=>rfl
 |p::l=>by rw[ij,List.length_cons,List.length_cons,iT l,List.length_cons];omega
theorem Ho:∀{l:List Pl} {i:Nat} {p:Pl},l[i]?=some p->(nJ l)[i*2]?=some (.int .i64 p.x)
 |q::l,0,p,h=>by cases h;rfl
 |q::l,i+1,p,h=>by
  rw[ij,show(i+1)*2=i*2+1+1 by omega,List.getElem?_cons_succ,List.getElem?_cons_succ]
  exact Ho (by simpa using h)
theorem Hn:∀{l:List Pl} {i:Nat} {p:Pl},l[i]?=some p->(nJ l)[i*2+1]?=some (.int .i64 p.y)
 |q::l,0,p,h=>by cases h;rfl
 |q::l,i+1,p,h=>by
  rw[ij,show(i+1)*2+1=i*2+1+1+1 by omega,List.getElem?_cons_succ,List.getElem?_cons_succ]
  exact Hn (by simpa using h)
theorem sG:∀{l:List Pl} {i:Nat} {p:Pl} (x:Int),l[i]?=some p->(nJ l).set (i*2) (.int .i64 x)=nJ (l.set i ⟨x,p.y⟩)
 |q::l,0,p,x,h=>by cases h;rfl
 |q::l,i+1,p,x,h=>by
  rw[ij,show(i+1)*2=i*2+1+1 by omega,List.set_cons_succ,List.set_cons_succ,sG x (by simpa using h),List.set_cons_succ,ij]
theorem yQ:∀{l:List Pl} {i:Nat} {p:Pl} (y:Int),l[i]?=some p->(nJ l).set (i*2+1) (.int .i64 y)=nJ (l.set i ⟨p.x,y⟩)
 |q::l,0,p,x,h=>by cases h;rfl
 |q::l,i+1,p,x,h=>by
  rw[ij,show(i+1)*2+1=i*2+1+1+1 by omega,List.set_cons_succ,List.set_cons_succ,yQ x (by simpa using h),List.set_cons_succ,ij]
theorem Hp:∀{l:List Pl} {cs:List Value},cs.length=l.length*2->(∀i x,l[i]?=some x->chunk cs 2 i=x.c)->cs=nJ l
 |[],cs,h,_=>by
  have:cs=[]:=List.length_eq_zero_iff.1 (by simpa using h)
  rw[this];rfl
 |p::l,a::b::cs,h,hc=>by
  have h0:=hc 0 p rfl
  simp only[chunk,Nat.zero_mul,List.drop_zero,List.take_succ_cons,List.take_zero,Pl.c]at h0
  injection h0 with e1 e2
  injection e2 with e2 _
  rw[ij,e1,e2,<-Hp (l:=l) (cs:=cs) (by simp at h;omega) (fun i x hi=>by
   have:=hc (i+1) x (by simpa using hi)
   simp only[chunk]at this⊢
   rw[show(i+1)*2=i*2+1+1 by omega,List.drop_succ_cons,List.drop_succ_cons]at this
   exact this)]
 |p::l,[],h,_=>by simp at h
 |p::l,[a],h,_=>by simp at h;omega
theorem uY{l:List Pl}{i:Nat}{p:Pl}(h:l[i]?=some p):chunk (nJ l) 2 i=p.c:=by
 have hx:=Ho h
 have hy:=Hn h
 have hl:=iT l
 have hi:=(List.getElem?_eq_some_iff.1 h).1
 unfold chunk
 refine List.ext_getElem? fun k=>?_
 match k with
 |0=>rw[List.getElem?_take_of_lt (by omega),List.getElem?_drop,Nat.add_zero];exact hx
 |1=>rw[List.getElem?_take_of_lt (by omega),List.getElem?_drop];exact hy
 |k+2=>
  rw[List.getElem?_eq_none (by rw[List.length_take];omega)]
  rfl
theorem Aw{l:List Pl}{b:Nat}{c:Nat}{g:Option Nat}(h:m.get b=.cells (nJ l) 98 g):Sl m l (.slice (some ⟨b,0,none⟩) l.length c):=
 .inr ⟨b,0,c,nJ l,g,rfl,h,by rw[iT];show 0+l.length*2<=_;omega,fun i x hi=>by
  rw[Nat.zero_add]
  exact uY hi⟩
theorem Ie{b n c i:Nat}{k:IntKind}(hi:i < n):ai TE 45 (.slice (some ⟨b,0,none⟩) n c) (.int k i)=some (.pointer (some ⟨b,i*2,none⟩)):=by
 have hc:0<=(i:Int)/\(i:Int)< (n:Int)/\0 < af.t45.es:=⟨by omega,by omega,by decide⟩
 have hd:af.t45.d=.slice 98:=rfl
 simp only[ai,BU,hd]
 rw[if_pos hc,aZ rfl,Nat.zero_add]
 rfl
theorem kn{cs:List Value}{i:Nat}{x:Value}(h:i < cs.length):cs.take i++([x]++cs.drop (i+1))=cs.set i x:=by
 rw[List.set_eq_take_append_cons_drop,if_pos h];rfl
def Pl.Ot(p:Pl):Pl:=⟨2*p.x,2*p.y⟩
def mixed(l:List Pl)(i:Nat):List Pl:=(l.take i).map Pl.Ot++l.drop i
theorem HF{l:List Pl}{i:Nat}{p:Pl}(h:l[i]?=some p):(mixed l i)[i]?=some p:=by
 have hi:=(List.getElem?_eq_some_iff.1 h).1
 unfold mixed
 rw[List.getElem?_append_right (by simp;omega)]
 simp only[List.length_map,List.length_take,List.getElem?_drop]
 rw[show i+(i-min i l.length)=i by omega,h]
theorem Em{l:List Pl}{i:Nat}(h:i<=l.length):(mixed l i).length=l.length:=by
 unfold mixed
 simp;omega
theorem AO{l:List Pl}{i:Nat}{p:Pl}(h:l[i]?=some p):(mixed l i).set i p.Ot=mixed l (i+1):=by
 have hi:=(List.getElem?_eq_some_iff.1 h).1
 unfold mixed
 rw[List.set_append_right (h:=by simp;omega)]
 simp only[List.length_map,List.length_take]
 rw[show i-min i l.length=0 by omega,List.take_add_one,h,Option.toList_some,List.map_append,List.append_assoc]
 congr 1
 rw[List.drop_eq_getElem_cons hi,List.set_cons_zero]
 rfl
def nv(l:List Pl)(x y:Int):Int:=if aP l && decide (0<=min x y) && decide (max x y < 40)then GZ (l.map Pl.Ot) ⟨2*x+1,2*y+1⟩else -1
theorem CT(hX:dF X){l:List Pl}{v:Value}(hl:Sl m l v)(hb:l.length < 4611686018427387904)(x y:Int):C X (.func 119) [v,.int .i64 x,.int .i64 y] m m.n (.int .i64 (nv l x y)) m:=by
 refine Cl.flat (hX.no _ rfl) Od rfl rfl ?_
 rw[Tp];dsimp only[aN]
 refine cq (fun vs m2 lo=>vs=[.bool (!(aP l && decide (0<=min x y) && decide (max x y < 40)))]/\m=m2/\m.n=lo) (fun R hR=>?_) ?_
 ·refine aC (fw hX hl hb) ?_
  simp only[bD,aa,aj,kU,au,aM]
  refine ak (fun h=>hR _ _ _ ⟨by simp only[Bool.not_eq_true']at h;simp[h],rfl,by omega⟩) (fun h=>?_)
  simp only[Bool.not_eq_false']at h
  refine ak (fun h2=>hR _ _ _ ⟨by
                       simp only[decide_eq_true_eq]at h2;have:¬0<=min x y:=by omega
                       simp[this],rfl,by omega⟩) (fun h2=>?_)
  rw[jT,au,cR,aa]
  simp only[decide_eq_false_iff_not]at h2
  refine hR _ _ _ ⟨?_,rfl,by omega⟩
  have e1:decide (0<=min x y)=true:=by simp;omega
  have e2:decide (40<=max x y)= !decide (max x y < 40):=by by_cases h:max x y < 40 <;>simp[h] <;>omega
  rw[h,e1,e2];rfl
 ·rintro _ _ _ ⟨rfl,rfl,rfl⟩
  rw[aA,aj]
  refine ak (fun h=>?_) (fun h=>?_)
  ·simp only[Bool.not_eq_true']at h
   exact⟨by simp only[bs,nv,h];rfl,Nat.le_refl _⟩
  ·simp only[Bool.not_eq_false']at h
   have hcell:nv l x y=GZ (l.map Pl.Ot) ⟨2*x+1,2*y+1⟩:=by unfold nv;rw[if_pos h]
   simp only[Bool.and_eq_true,decide_eq_true_eq]at h
   obtain⟨⟨hv,h0⟩,h40⟩:=h
   have hlen:=cC hv
   have hne:l≠ []:=by rintro rfl;simp at hlen
   obtain⟨v',m2,hc,hOw,hx⟩:=tU hX hl hne (by omega)
   refine aC hc ?_
   rcases hOw with⟨_,rfl⟩ |⟨b,cs,rfl,hpos,hbn,hg,hcl,hch⟩
   ·exact absurd rfl hne
   obtain rfl:cs=nJ l:=Hp hcl hch
   have hm0:mixed l 0=l:=by unfold mixed;simp
   have hlen2:∀mm:M,aq TE mm .len [45] [.slice (some ⟨b,0,none⟩) l.length l.length]=some (.int .i64 l.length,mm):=fun mm=>Nc
   rw[hlen2,au]
   refine Lp.intro (γ:=Nat) (fun i=>l.length-i) (fun i vs m1 lo=>vs=[.int .i64 i]/\i<=l.length/\m2.n<=m1.n/\m1.get b=.cells (nJ (mixed l i)) 98 (some 2)/\m.n<=lo) 0 ⟨rfl,Nat.zero_le _,Nat.le_refl _,by rw[hm0];exact hg,by omega⟩ ?_
   rintro i vs m1 lo1 ⟨rfl,hi,hn,hgi,hlo⟩
   simp only[aA,aM,aa,aj]
   refine ak (fun hlt=>?_) (fun hge=>?_)
   ·have hlt:i < l.length:=by simpa using hlt
    obtain⟨p,hp⟩:∃p,l[i]?=some p:=⟨_,List.getElem?_eq_getElem hlt⟩
    have hsm:=Pl.on (kl hv p (List.mem_of_getElem? hp))
    have hat:=HF hp
    have hmlen:=Em (l:=l) (i:=i) (by omega)
    simp only[Ie hlt,aa,bC,bJ,Nat.add_zero]
    rw[bA,az hgi,Ho hat,aa,dt,aa,wrap64 (by omega) (by omega)]
    refine dS nB hgi rfl (by rw[iT,hmlen];show i*2+1<=_;omega) rfl fun m3 hn3 hg3 hk3=>?_
    have hg3':m3.get b=.cells (nJ ((mixed l i).set i ⟨p.x*2,p.y⟩)) 98 (some 2):=by
     rw[hg3,<-sG _ hat,<-kn (by rw[iT,hmlen];omega)];rfl
    have hat3:((mixed l i).set i ⟨p.x*2,p.y⟩)[i]?=some ⟨p.x*2,p.y⟩:=by rw[List.getElem?_set_self (by rw[hmlen];exact hlt)]
    rw[bA,az hg3',Hn hat3,aa]
    simp only[dt,aa]
    rw[wrap64 (by omega) (by omega)]
    refine dS nB hg3' rfl (by rw[iT,List.length_set,hmlen];show i*2+1+1<=_;omega) rfl fun m4 hn4 hg4 hk4=>?_
    have hg4':m4.get b=.cells (nJ (mixed l (i+1))) 98 (some 2):=by
     rw[hg4,<-AO hp,show p.Ot=⟨p.x*2,p.y*2⟩ by unfold Pl.Ot;congr 1 <;>omega,
      show(mixed l i).set i ⟨p.x*2,p.y*2⟩=((mixed l i).set i ⟨p.x*2,p.y⟩).set i ⟨p.x*2,p.y*2⟩ by rw[List.set_set],<-yQ _ hat3,<-kn (by rw[iT,List.length_set,hmlen];omega)];rfl
    rw[aG,aa,wrap64 (by omega) (by omega)]
    exact⟨i+1,by omega,by simp,by omega,by omega,hg4',by omega⟩
   ·have hi':i=l.length:=by
     have:¬(i:Int)< (l.length:Int):=by simpa using hge
     omega
    simp only[dt,aG,aa]
    rw[wrap64 (x:=2*x) (by omega) (by omega),wrap64 (x:=2*x+1) (by omega) (by omega),wrap64 (x:=2*y) (by omega) (by omega),wrap64 (x:=2*y+1) (by omega) (by omega)]
    rw[ez rfl rfl,aa]
    have hm:mixed l i=l.map Pl.Ot:=by unfold mixed;rw[hi',List.take_length,List.drop_length,List.append_nil]
    rw[hm]at hgi
    have hs:=Aw (c:=l.length) hgi
    rw[List.length_map]at hs
    refine aC (Kt hX (p:=⟨2*x+1,2*y+1⟩) hs (by rw[List.length_map];exact hb) ?_ ⟨by show -1000000<=2*x+1;omega,by show 2*x+1<=1000000;omega,by show -1000000<=2*y+1;omega,by show 2*y+1<=1000000;omega⟩) ?_
    ·intro a ha
     obtain⟨p,hp,rfl⟩:=List.mem_map.1 ha
     have:=Pl.on (kl hv p hp)
     exact⟨by show -1000000<=2*p.x;omega,by show 2*p.x<=1000000;omega,by show -1000000<=2*p.y;omega,by show 2*p.y<=1000000;omega⟩
    ·exact⟨by rw[bs,hcell],by have:=hx.n;omega⟩
end Go.Proofs.YtmdfgncoekfgdaaGreatDoor
namespace Go.Proofs.YtmdfgncoekfgdaaGreatDoor
open Go Go.D
set_option maxRecDepth 100000 in
theorem Tf{W:Words}{x0 x1:Value}{m:M}{R:List Value->M->Nat->Prop}:dN TE W Tryz.f132 [x0,x1] m R=
(W.bW (M.push m (.cells [(.int .i64 0),(.int .i64 0),(.int .i64 0),(.slice none 0 0),(.int .i64 0),(.int .i64 0)] 87 none)) fun a=>W.aO (aq TE a .len [29] [x0]) fun b _=>W.Lp (fun c d f g=>W.un d fun h i=>W.un i fun j k=>W.ah (an TE .lss 3 j b) fun l=>aX l
(W.ah (ai TE 29 x0 j) fun n=>W.ah (ag TE f 87 n) fun o=>W.bW (M.push f (.cells [(.int .i64 0),(.int .i64 0),(.int .i64 0),(.slice none 0 0),(.int .i64 0),(.int .i64 0)] 87 none)) fun p=>W.aO (aB TE p 87 (ptrTo f.n) o) fun q r=>W.jn (fun s=>W.ah (iO .not h) fun t=>aX t
(s [(.bool true)] q (min g r))
(W.ah (ag TE q 87 (ptrTo f.n)) fun u=>W.ah (ag TE q 87 (ptrTo m.n)) fun v=>ku x1 fun w y z=>W.bB w (y.toList++([u,v]++z.toList)) q fun A B C=>s [A] B (min (min g r) C)))
(fun D E F=>W.un D fun G H=>aX G
(W.ah (ag TE E 87 (ptrTo f.n)) fun I=>W.aO (aB TE E 87 (ptrTo m.n) I) fun J K=>W.ah (an TE .add 3 j (.int .i64 1)) fun L=>c [(.bool true),L] J (min F K))
(W.ah (an TE .add 3 j (.int .i64 1)) fun N=>c [h,N] E F)))
(W.ah (ag TE f 87 (ptrTo m.n)) fun O=>W.aO (aB TE f 87 (ptrTo m.n) O) fun P Q=>ah (ag TE P 87 (ptrTo m.n)) fun S=>R [S,h] P (min g Q))) [(.bool false),(.int .i64 0)] a m.n):=by kernel_rfl
set_option maxRecDepth 100000 in
theorem Te{W:Words}{x0 x1:Value}{m:M}{R:List Value->M->Nat->Prop}:dN TE W Tryz.f133 [x0,x1] m R=
(W.bW (M.push m (.cells (cells x0) 87 none)) fun a=>W.bW (M.push a (.cells (cells x1) 87 none)) fun b=>W.ah (ae TE 87 (ptrTo m.n) 4) fun c=>W.ah (ag TE b 3 c) fun d=>W.ah (ae TE 87 (ptrTo a.n) 4) fun f=>W.ah (ag TE b 3 f) fun g=>W.ah (an TE .lss 3 d g) fun h=>R [h] b m.n):=by kernel_rfl
set_option maxRecDepth 100000 in
theorem Td{W:Words}{x0 x1:Value}{m:M}{R:List Value->M->Nat->Prop}:dN TE W Tryz.f134 [x0,x1] m R=
(W.bW (M.push m (.cells (cells x0) 87 none)) fun a=>W.bW (M.push a (.cells (cells x1) 87 none)) fun b=>W.ah (ae TE 87 (ptrTo m.n) 5) fun c=>W.ah (ag TE b 3 c) fun d=>W.ah (ae TE 87 (ptrTo a.n) 5) fun f=>W.ah (ag TE b 3 f) fun g=>W.ah (an TE .gtr 3 d g) fun h=>R [h] b m.n):=by kernel_rfl
set_option maxRecDepth 100000 in
theorem Tg{W:Words}{x0 x1:Value}{m:M}{R:List Value->M->Nat->Prop}:dN TE W Tryz.f131 [x0,x1] m R=
(W.bW (M.push m (.cells (cells x0) 87 none)) fun a=>W.ah (iO .not x1) fun b=>aX b
(R [(.int .i64 (-1))] a m.n)
(W.ah (ae TE 87 (ptrTo m.n) 0) fun c=>W.ah (ag TE a 3 c) fun d=>R [d] a m.n)):=by kernel_rfl
set_option maxRecDepth 100000 in
theorem F68{W:Words}{x0 x1 x2:Value}{m:M}{R:List Value->M->Nat->Prop}:dN TE W Tryz.f68 [x0,x1,x2] m R=
(W.bW (M.push m (.cells [(.int .i64 0),(.int .i64 0),(.slice none 0 0)] 27 none)) fun a=>W.ah (aW TE 27 [(0,x0),(1,x1)]) fun b=>W.bW (M.push a (.cells [(.int .i64 0),(.int .i64 0),(.slice none 0 0)] 27 none)) fun c=>W.aO (aB TE c 27 (ptrTo a.n) b) fun d f=>W.Lp (fun g h i j=>W.un h fun k l=>W.ah (an TE .lss 3 k x1) fun n=>aX n
(W.Lp (fun o p q r=>W.un p fun s t=>W.ah (an TE .lss 3 s x0) fun u=>aX u
(W.ah (ae TE 27 (ptrTo a.n) 2) fun v=>W.ah (ag TE q 25 v) fun w=>ku x2 fun y z A=>W.bB y (z.toList++([s,k]++A.toList)) q fun B C D=>(M.n q<=D)/\(W.aO (aE TE C 25 1 [(0,B)]) fun E F=>W.aO (aq TE (M.wl F F.n) .append [25,25] [w,E]) fun G H=>W.ah (ae TE 27 (ptrTo a.n) 2) fun I=>W.aO (aB TE H 25 I G) fun J K=>W.ah (an TE .add 3 s (.int .i64 1)) fun L=>o [L] J (min (min (min r D) (M.low H)) K)))
(W.ah (an TE .add 3 k (.int .i64 1)) fun N=>g [N] q r)) [(.int .i64 0)] i j)
(W.ah (ag TE i 27 (ptrTo a.n)) fun O=>W.aO (aB TE i 27 (ptrTo m.n) O) fun P Q=>ah (ag TE P 27 (ptrTo m.n)) fun S=>R [S] P (min j Q))) [(.int .i64 0)] d (min m.n f)):=by kernel_rfl
set_option maxRecDepth 100000 in
theorem F67{W:Words}{x0:Value}{m:M}{R:List Value->M->Nat->Prop}:dN TE W Tryz.f67 [x0] m R=
(W.bW (M.push m (.cells (cells x0) 31 none)) fun a=>W.bW (M.push a (.map [] 0)) fun b=>W.ah (ae TE 31 (ptrTo m.n) 0) fun c=>W.ah (ag TE b 29 c) fun d=>W.aO (aq TE b .len [29] [d]) fun f _=>W.Lp (fun g h i j=>W.un h fun k l=>W.ah (an TE .lss 3 k f) fun n=>aX n
(W.ah (ai TE 29 d k) fun o=>W.ah (ag TE i 87 o) fun p=>W.bW (M.push i (.cells [(.int .i64 0),(.int .i64 0),(.int .i64 0),(.slice none 0 0),(.int .i64 0),(.int .i64 0)] 87 none)) fun q=>W.aO (aB TE q 87 (ptrTo i.n) p) fun r s=>W.ah (ae TE 87 (ptrTo i.n) 3) fun t=>W.ah (ag TE r 45 t) fun u=>W.ah (ai TE 45 u (.int .i64 0)) fun v=>W.ah (ag TE r 98 v) fun w=>W.ah (ae TE 87 (ptrTo i.n) 3) fun y=>W.ah (ag TE r 45 y) fun z=>W.ah (ai TE 45 z (.int .i64 0)) fun A=>W.ah (ag TE r 98 A) fun B=>W.bW (M.push r (.cells [(.int .i64 0),(.int .i64 0)] 98 none)) fun C=>W.bW (M.push C (.cells [(.int .i64 0),(.int .i64 0)] 98 none)) fun D=>W.aO (aB TE D 98 (ptrTo r.n) w) fun E F=>((M.n D<=F)\/(dT (some (.v y)) F/\(dT (some (.v A)) F/\True)))/\(W.aO (aB TE E 98 (ptrTo C.n) B) fun G H=>W.ah (ae TE 87 (ptrTo i.n) 3) fun I=>W.ah (ag TE G 45 I) fun J=>W.aO (aq TE G .len [45] [J]) fun K _=>W.Lp (fun L N O P=>W.un N fun Q S=>W.ah (an TE .lss 3 Q K) fun T=>aX T
(W.ah (ai TE 45 J Q) fun U=>W.ah (ag TE O 98 U) fun V=>W.bW (M.push O (.cells [(.int .i64 0),(.int .i64 0)] 98 none)) fun X=>W.aO (aB TE X 98 (ptrTo O.n) V) fun Y Z=>W.ah (ae TE 98 (ptrTo r.n) 0) fun a0=>W.ah (ag TE Y 3 a0) fun a1=>W.ah (ae TE 98 (ptrTo O.n) 0) fun a2=>W.ah (ag TE Y 3 a2) fun a3=>W.aO (aq TE Y .min [3,3] [a1,a3]) fun a4 _=>W.ah (ae TE 98 (ptrTo r.n) 1) fun a5=>W.ah (ag TE Y 3 a5) fun a6=>W.ah (ae TE 98 (ptrTo O.n) 1) fun a7=>W.ah (ag TE Y 3 a7) fun a8=>W.aO (aq TE Y .min [3,3] [a6,a8]) fun a9 _=>W.ah (aW TE 98 [(0,a4),(1,a9)]) fun b0=>W.ah (ae TE 98 (ptrTo C.n) 0) fun b1=>W.ah (ag TE Y 3 b1) fun b2=>W.ah (ae TE 98 (ptrTo O.n) 0) fun b3=>W.ah (ag TE Y 3 b3) fun b4=>W.aO (aq TE Y .max [3,3] [b2,b4]) fun b5 _=>W.ah (ae TE 98 (ptrTo C.n) 1) fun b6=>W.ah (ag TE Y 3 b6) fun b7=>W.ah (ae TE 98 (ptrTo O.n) 1) fun b8=>W.ah (ag TE Y 3 b8) fun b9=>W.aO (aq TE Y .max [3,3] [b7,b9]) fun c0 _=>W.ah (aW TE 98 [(0,b5),(1,c0)]) fun c1=>W.aO (aB TE Y 98 (ptrTo r.n) b0) fun c2 c3=>((M.n Y<=c3)\/(dT (some (.v b1)) c3/\(dT (some (.v b3)) c3/\(dT (some (.v b6)) c3/\(dT (some (.v b8)) c3/\True)))))/\(W.aO (aB TE c2 98 (ptrTo C.n) c1) fun c4 c5=>W.ah (an TE .add 3 Q (.int .i64 1)) fun c6=>L [c6] c4 (min (min (min P Z) c3) c5)))
(W.ah (ae TE 98 (ptrTo r.n) 1) fun c7=>W.ah (ag TE O 3 c7) fun c8=>W.Lp (fun c9 d0 d1 d2=>W.un d0 fun d3 d4=>W.ah (ae TE 98 (ptrTo C.n) 1) fun d5=>W.ah (ag TE d1 3 d5) fun d6=>W.ah (an TE .geq 3 d3 d6) fun d7=>aX d7
(W.ah (an TE .add 3 k (.int .i64 1)) fun d8=>g [d8] d1 d2)
(W.ah (ae TE 98 (ptrTo r.n) 0) fun d9=>W.ah (ag TE d1 3 d9) fun g0=>W.Lp (fun g1 g2 g3 g4=>W.un g2 fun g5 g6=>W.ah (ae TE 98 (ptrTo C.n) 0) fun g7=>W.ah (ag TE g3 3 g7) fun g8=>W.ah (an TE .lss 3 g5 g8) fun g9=>aX g9
(W.ah (aW TE 98 [(0,g5),(1,d3)]) fun h0=>W.bW (M.push g3 (.cells [(.int .i64 0),(.int .i64 0)] 98 none)) fun h1=>W.aO (aB TE h1 98 (ptrTo g3.n) h0) fun h2 h3=>W.ah (ae TE 87 (ptrTo i.n) 3) fun h4=>W.ah (ag TE h2 45 h4) fun h5=>W.bB (.func 119) [h5,g5,d3] h2 fun h6 h7 h8=>W.ah (an TE .geq 3 h6 (.int .i64 0)) fun h9=>aX h9
(W.ah (ag TE h7 98 (ptrTo g3.n)) fun i0=>W.ah (ag TE h7 87 (ptrTo i.n)) fun i1=>W.aO (aE TE h7 29 1 [(0,i1)]) fun i2 i3=>W.aO (dw TE (M.wl i3 i3.n) 133 (.map (some a.n)) i0) fun i4 i5=>W.ah (cx i4 0) fun i6=>W.aO (aq TE (M.wl i5 i5.n) .append [29,29] [i6,i2]) fun i7 i8=>W.ah (cx i4 1) fun i9=>W.ah (cz (M.wl i8 i8.n) (.map (some a.n)) i9 i7) fun j0=>W.ah (an TE .add 3 g5 (.int .i64 1)) fun j1=>g1 [j1] j0 (min (min (min (min (min g4 h3) h8) (M.low i5)) (M.low i8)) (M.low j0)))
(W.ah (an TE .add 3 g5 (.int .i64 1)) fun j2=>g1 [j2] h7 (min (min g4 h3) h8)))
(W.ah (an TE .add 3 d3 (.int .i64 1)) fun j3=>c9 [j3] g3 g4)) [g0] d1 d2)) [c8] O P)) [(.int .i64 0)] G (min (min (min j s) F) H)))
(R [(.map (some a.n))] i j)) [(.int .i64 0)] b m.n):=by kernel_rfl
set_option maxRecDepth 100000 in
theorem F60{W:Words}{x0 x1:Value}{m:M}{R:List Value->M->Nat->Prop}:dN TE W Tryz.f60 [x0,x1] m R=
(W.bW (M.push m (.cells (cells x0) 31 none)) fun a=>W.bW (M.push a (.cells (cells x1) 4 none)) fun b=>W.bW (M.push b (.cells [(.int .i64 0),(.int .i64 0),(.slice none 0 0)] 27 none)) fun c=>W.ah (ag TE c 31 (ptrTo m.n)) fun d=>W.bB (.func 67) [d] c fun f g h=>W.bW (M.push g (.cells [(.map none)] 133 none)) fun i=>W.aO (aB TE i 133 (ptrTo g.n) f) fun j k=>W.bB (.func 68) [(.int .i64 40),(.int .i64 40),(.func (.func 130) #[] #[(ptrTo a.n),(ptrTo g.n)])] j fun l n o=>W.aO (aB TE n 27 (ptrTo b.n) l) fun p q=>ah (ag TE p 27 (ptrTo b.n)) fun r=>R [r] p (min (min (min (min m.n h) k) o) q)):=by kernel_rfl
set_option maxRecDepth 100000 in
theorem Th{W:Words}{x0 x1 x2 x3:Value}{m:M}{R:List Value->M->Nat->Prop}:dN TE W Tryz.f130 [x0,x1,x2,x3] m R=
(W.ah (ag TE m 4 x2) fun a=>aX a
(W.ah (ag TE m 133 x3) fun b=>W.ah (an TE .sub 3 (.int .i64 39) x0) fun c=>W.ah (aW TE 98 [(0,c),(1,x1)]) fun d=>W.ah (eK TE m 133 b d false) fun f=>W.bB (.func 132) [f,(.func (.func 133) #[] #[])] m fun g h i=>W.ah (cx g 0) fun j=>W.ah (cx g 1) fun k=>W.bB (.func 131) [j,k] h fun l n o=>R [l] n (min (min m.n i) o))
(W.ah (ag TE m 133 x3) fun p=>W.ah (aW TE 98 [(0,x0),(1,x1)]) fun q=>W.ah (eK TE m 133 p q false) fun r=>W.bB (.func 132) [r,(.func (.func 134) #[] #[])] m fun s t u=>W.ah (cx s 0) fun v=>W.ah (cx s 1) fun w=>W.bB (.func 131) [v,w] t fun y z A=>R [y] z (min (min m.n u) A))):=by kernel_rfl
end Go.Proofs.YtmdfgncoekfgdaaGreatDoor
