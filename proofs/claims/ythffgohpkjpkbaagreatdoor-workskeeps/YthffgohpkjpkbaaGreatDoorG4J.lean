/- What the words of the formulas .. -/
import Derived.Test.YthffgohpkjpkbaaGreatDoorTabJ
import Derived.Test.YthffgohpkjpkbaaGreatDoorG2J
import Derived.OpenShut
import Derived.ProofKit
import Derived.Lay
import Derived.Deep.DeepWitnessRowRef
set_option maxHeartbeats 1000000
set_option linter.defProp false
noncomputable section
open Go Go.D Go.Proofs.Tryz
namespace Go.Proofs.YthffgohpkjpkbaaGreatDoor
variable{m:M}{b o:Nat}{a:Addr}
def DN{l:ν}(h:l.length=1):∃F,l=[F]:=by match l,h with|[F],_=>exact⟨F,rfl⟩
def DM{l:ν}(h:l.length=2):∃F y1,l=[F,y1]:=by match l,h with|[F,y1],_=>exact⟨F,y1,rfl⟩
def DL{l:ν}(h:l.length=4):∃F y1 y2 y3,l=[F,y1,y2,y3]:=by match l,h with|[F,y1,y2,y3],_=>exact⟨F,y1,y2,y3,rfl⟩
def DK{l:ν}(h:l.length=5):∃F y1 y2 y3 y4,l=[F,y1,y2,y3,y4]:=by match l,h with|[F,y1,y2,y3,y4],_=>exact⟨F,y1,y2,y3,y4,rfl⟩
def abq{l:ν}(h:l.length=6):∃F y1 y2 y3 y4 y5,l=[F,y1,y2,y3,y4,y5]:=by match l,h with|[F,y1,y2,y3,y4,y5],_=>exact⟨F,y1,y2,y3,y4,y5,rfl⟩
def Xb:TE.ty.get 29=some ai.t29:=bv
def ab7:TE.ty.get 32=some ai.t32:=bv
def abG:TE.ty.get 37=some ai.t37:=bv
def abm:TE.ty.get 43=some ai.t43:=bv
def W7:TE.ty.get 46=some ai.t46:=bv
def W6:TE.ty.get 48=some ai.t48:=bv
def W5:TE.ty.get 50=some ai.t50:=bv
def W3:TE.ty.get 58=some ai.t58:=bv
def W2:TE.ty.get 60=some ai.t60:=bv
def W1:TE.ty.get 68=some ai.t68:=bv
def W0:TE.ty.get 85=some ai.t85:=bv
def adk:TE.ty.get 87=some ai.t87:=bv
def adL:TE.ty.get 96=some ai.t96:=bv
def adX:TE.ty.get 103=some ai.t103:=bv
def TQ:TE.ty.get 234=some ai.t234:=bv
def TP:TE.ty.get 242=some ai.t242:=bv
def TO:TE.ty.get 307=some ai.t307:=bv
def TN:TE.ty.get 309=some ai.t309:=bv
def rn{P:Prop}(h:P:=by simp only[bz,Xb,ab7,abG,abm,W7,W6,W5,W3,W2,W1,W0,adk,adL,adX,TQ,TP,TO,TN,ai.t29,ai.t32,ai.t37,ai.t43,ai.t46,ai.t48,ai.t50,ai.t58,ai.t60,ai.t68,ai.t85,ai.t87,ai.t96,ai.t103,ai.t234,ai.t242,ai.t307,ai.t309,fill,bd,XW,Q7,Rq,JW,F4];(repeat (rename (cells _).length=_=>h;(first|obtain⟨_,e⟩:=DN h|obtain⟨_,_,e⟩:=DM h|obtain⟨_,_,_,_,e⟩:=DL h|obtain⟨_,_,_,_,_,e⟩:=DK h|have⟨_,_,_,_,_,_,e⟩:=abq h);simp only[e];clear h e));rfl):P:=h
def aa0{x0 x1:O}(F:(cells x0).length=1)(h1:(cells x1).length=1):bz TE 103 [(0,x0),(1,x1)]=some (.agg (cells x0++(cells x1)).toArray):=rn
def zZ{x0:O}(F:(cells x0).length=2):bz TE 242 [(0,x0)]=some (.agg (cells x0).toArray):=rn
def EV:bz TE 29 []=some (.agg (([Z9]:ν)).toArray):=bv
def vZ{x0:O}(F:(cells x0).length=1):bz TE 29 [(0,x0)]=some (.agg (cells x0).toArray):=rn
def Ay{x0 x1 x2:O}(F:(cells x0).length=1)(h1:(cells x1).length=1)(h2:(cells x2).length=1):bz TE 307 [(0,x0),(1,x1),(2,x2)]=some (.agg (cells x0++(cells x1++(cells x2))).toArray):=rn
def abu{x0 x1 x2:O}(F:(cells x0).length=1)(h1:(cells x1).length=1)(h2:(cells x2).length=1):bz TE 309 [(0,x0),(1,x1),(2,x2)]=some (.agg (cells x0++(cells x1++(cells x2))).toArray):=rn
def jZ:bz TE 32 []=some (.agg (([Z9]:ν)++(([Z9]:ν))).toArray):=bv
def Da{x0:O}(F:(cells x0).length=1):bz TE 32 [(0,x0)]=some (.agg (cells x0++(([Z9]:ν))).toArray):=rn
def rj{x0 x1:O}(F:(cells x0).length=1)(h1:(cells x1).length=1):bz TE 32 [(0,x0),(1,x1)]=some (.agg (cells x0++(cells x1)).toArray):=rn
def C9{x0:O}(F:(cells x0).length=1):bz TE 32 [(1,x0)]=some (.agg (([Z9]:ν)++(cells x0)).toArray):=rn
def N0:bz TE 37 []=some (.agg (([Z9,Z9]:ν)++(([Z9]:ν)++(([Z9]:ν)++(([Z9]:ν))))).toArray):=bv
def ad8{x0:O}(F:(cells x0).length=2):bz TE 37 [(0,x0)]=some (.agg (cells x0++(([Z9]:ν)++(([Z9]:ν)++(([Z9]:ν))))).toArray):=rn
def aba{x0 x1 x2:O}(F:(cells x0).length=2)(h1:(cells x1).length=1)(h2:(cells x2).length=1):bz TE 37 [(0,x0),(2,x1),(3,x2)]=some (.agg (cells x0++(([Z9]:ν)++(cells x1++(cells x2)))).toArray):=rn
def qo:bz TE 43 []=some (.agg (([.int .i64 0]:ν)++(([.int .i64 0]:ν)++(([.int .i64 0]:ν)++(([Z9]:ν)++(([.int .i64 0]:ν)++(([.int .i64 0]:ν))))))).toArray):=bv
def aeg{x0 x1 x2 x3 x4 x5:O}(F:(cells x0).length=1)(h1:(cells x1).length=1)(h2:(cells x2).length=1)(h3:(cells x3).length=1)(h4:(cells x4).length=1)(h5:(cells x5).length=1):bz TE 43 [(0,x0),(1,x1),(2,x2),(3,x3),(4,x4),(5,x5)]=some (.agg (cells x0++(cells x1++(cells x2++(cells x3++(cells x4++(cells x5)))))).toArray):=rn
def vY{x0 x1 x2 x3 x4:O}(F:(cells x0).length=1)(h1:(cells x1).length=1)(h2:(cells x2).length=1)(h3:(cells x3).length=1)(h4:(cells x4).length=1):bz TE 43 [(0,x0),(1,x1),(2,x2),(4,x3),(5,x4)]=some (.agg (cells x0++(cells x1++(cells x2++(([Z9]:ν)++(cells x3++(cells x4)))))).toArray):=rn
def ri{x0 x1:O}(F:(cells x0).length=1)(h1:(cells x1).length=1):bz TE 46 [(0,x0),(1,x1)]=some (.agg (cells x0++(cells x1)).toArray):=rn
def abw:bz TE 58 []=some (.agg (([.int .i64 0]:ν)++(([.int .i64 0,.int .i64 0,.int .i64 0,Z9,.int .i64 0,.int .i64 0]:ν)++(([.int .i64 0]:ν)++(([.int .i64 0]:ν)++(([.int .i64 0]:ν)++(([.int .i64 0]:ν))))))).toArray):=bv
def vX{x0:O}(F:(cells x0).length=1):bz TE 58 [(0,x0)]=some (.agg (cells x0++(([I 0,I 0,I 0,Z9,I 0,I 0]:ν)++(([I 0]:ν)++(([I 0]:ν)++(([I 0]:ν)++(([I 0]:ν))))))).toArray):=rn
def ac2{x0 x1 x2:O}(F:(cells x0).length=1)(h1:(cells x1).length=1)(h2:(cells x2).length=1):bz TE 60 [(0,x0),(1,x1),(2,x2)]=some (.agg (cells x0++(cells x1++(cells x2))).toArray):=rn
def NY:bz TE 68 []=some (.agg (([.int .i64 0]:ν)++(([.int .i64 0]:ν)++(([.int .i64 0]:ν)++(([.int .i64 0]:ν)++(([P6]:ν)))))).toArray):=bv
def acp{x0:O}(F:(cells x0).length=6):bz TE 85 [(0,x0)]=some (.agg (cells x0++(([Z9]:ν))).toArray):=rn
def Gl{x0 x1:O}(F:(cells x0).length=1)(h1:(cells x1).length=6):bz TE 87 [(0,x0),(1,x1)]=some (.agg (cells x0++(cells x1++(([I 0]:ν)++(([I 0]:ν)++(([I 0]:ν)++(([I 0,I 0,I 0,I 0,P6]:ν))))))).toArray):=rn
def Gk{x0 x1:O}(F:(cells x0).length=1)(h1:(cells x1).length=1):bz TE 87 [(0,x0),(2,x1)]=some (.agg (cells x0++(([I 0,I 0,I 0,Z9,I 0,I 0]:ν)++(cells x1++(([I 0]:ν)++(([I 0]:ν)++(([I 0,I 0,I 0,I 0,P6]:ν))))))).toArray):=rn
def ab2{x0 x1:O}(F:(cells x0).length=1)(h1:(cells x1).length=5):bz TE 87 [(0,x0),(5,x1)]=some (.agg (cells x0++(([I 0,I 0,I 0,Z9,I 0,I 0]:ν)++(([I 0]:ν)++(([I 0]:ν)++(([I 0]:ν)++(cells x1)))))).toArray):=rn
def C1{k:IntKind}{n:Int}:Tx TE m 220 3 (.int k n)=some (.int .i64 (IntKind.wrap .i64 n)):=bv
def C0{k:IntKind}{n:Int}:Tx TE m 3 220 (.int k n)=some (.int .u64 (IntKind.wrap .u64 n)):=bv
def P7{t i k:Nat}(h:az TE t (Ω b o) i=some (.pointer (some (Addr.add ⟨b,o,none⟩ k)))):az TE t (Ω b o) i=some (Ω b (o+k)):=by rw[h,bs rfl]
def iA:az TE 103 (Ω b o) 0=some (Ω b (o+0)):=P7 bv
def jE:az TE 103 (Ω b o) 1=some (Ω b (o+1)):=P7 bv
def rI:az TE 234 (Ω b o) 0=some (Ω b (o+0)):=P7 bv
def mM:az TE 234 (Ω b o) 2=some (Ω b (o+2)):=P7 bv
def bV:az TE 242 (Ω b o) 0=some (Ω b (o+0)):=P7 bv
def tu:az TE 25 (Ω b o) 0=some (Ω b (o+0)):=P7 bv
def tn:az TE 25 (Ω b o) 1=some (Ω b (o+1)):=P7 bv
def bk:az TE 29 (Ω b o) 0=some (Ω b (o+0)):=P7 bv
def Av:az TE 307 (Ω b o) 0=some (Ω b (o+0)):=P7 bv
def Au:az TE 307 (Ω b o) 1=some (Ω b (o+1)):=P7 bv
def acA:az TE 307 (Ω b o) 2=some (Ω b (o+2)):=P7 bv
def mL:az TE 309 (Ω b o) 0=some (Ω b (o+0)):=P7 bv
def mK:az TE 309 (Ω b o) 1=some (Ω b (o+1)):=P7 bv
def mJ:az TE 309 (Ω b o) 2=some (Ω b (o+2)):=P7 bv
def bM:az TE 32 (Ω b o) 0=some (Ω b (o+0)):=P7 bv
def bI:az TE 32 (Ω b o) 1=some (Ω b (o+1)):=P7 bv
def dn:az TE 37 (Ω b o) 0=some (Ω b (o+0)):=P7 bv
def dF:az TE 37 (Ω b o) 1=some (Ω b (o+2)):=P7 bv
def fE:az TE 37 (Ω b o) 2=some (Ω b (o+3)):=P7 bv
def fD:az TE 37 (Ω b o) 3=some (Ω b (o+4)):=P7 bv
def aW:az TE 43 (Ω b o) 0=some (Ω b (o+0)):=P7 bv
def dm:az TE 43 (Ω b o) 1=some (Ω b (o+1)):=P7 bv
def ck:az TE 43 (Ω b o) 2=some (Ω b (o+2)):=P7 bv
def bA:az TE 43 (Ω b o) 3=some (Ω b (o+3)):=P7 bv
def dk:az TE 43 (Ω b o) 4=some (Ω b (o+4)):=P7 bv
def dj:az TE 43 (Ω b o) 5=some (Ω b (o+5)):=P7 bv
def cV:az TE 46 (Ω b o) 0=some (Ω b (o+0)):=P7 bv
def dZ:az TE 46 (Ω b o) 1=some (Ω b (o+1)):=P7 bv
def CO:az TE 50 (Ω b o) 0=some (Ω b (o+0)):=P7 bv
def CN:az TE 50 (Ω b o) 1=some (Ω b (o+1)):=P7 bv
def dE:az TE 58 (Ω b o) 0=some (Ω b (o+0)):=P7 bv
def dP:az TE 58 (Ω b o) 1=some (Ω b (o+1)):=P7 bv
def cU:az TE 58 (Ω b o) 2=some (Ω b (o+7)):=P7 bv
def cT:az TE 58 (Ω b o) 3=some (Ω b (o+8)):=P7 bv
def dD:az TE 58 (Ω b o) 4=some (Ω b (o+9)):=P7 bv
def cL:az TE 58 (Ω b o) 5=some (Ω b (o+10)):=P7 bv
def eL:az TE 60 (Ω b o) 0=some (Ω b (o+0)):=P7 bv
def fA:az TE 60 (Ω b o) 1=some (Ω b (o+1)):=P7 bv
def th:az TE 60 (Ω b o) 2=some (Ω b (o+2)):=P7 bv
def bR:az TE 68 (Ω b o) 0=some (Ω b (o+0)):=P7 bv
def cS:az TE 68 (Ω b o) 1=some (Ω b (o+1)):=P7 bv
def eK:az TE 68 (Ω b o) 2=some (Ω b (o+2)):=P7 bv
def ja:az TE 68 (Ω b o) 3=some (Ω b (o+3)):=P7 bv
def eJ:az TE 68 (Ω b o) 4=some (Ω b (o+4)):=P7 bv
def bW:az TE 85 (Ω b o) 0=some (Ω b (o+0)):=P7 bv
def dC:az TE 85 (Ω b o) 1=some (Ω b (o+6)):=P7 bv
def gQ:az TE 87 (Ω b o) 0=some (Ω b (o+0)):=P7 bv
def di:az TE 87 (Ω b o) 1=some (Ω b (o+1)):=P7 bv
def cK:az TE 87 (Ω b o) 2=some (Ω b (o+7)):=P7 bv
def gM:az TE 87 (Ω b o) 3=some (Ω b (o+8)):=P7 bv
def gL:az TE 87 (Ω b o) 4=some (Ω b (o+9)):=P7 bv
def eI:az TE 87 (Ω b o) 5=some (Ω b (o+10)):=P7 bv
def kM:az TE 96 (Ω b o) 2=some (Ω b (o+2)):=P7 bv
def kL:az TE 96 (Ω b o) 3=some (Ω b (o+3)):=P7 bv
def kJ:az TE 96 (Ω b o) 4=some (Ω b (o+4)):=P7 bv
def XJ{a:Option Addr}{n c:Nat}:aR TE m .len [27] [.slice a n c]=some (.int .i64 n,m):=bv
def Cs:aC TE m 103 (.pointer (some a))=(D.loadCells m a 2).map (λcs=> .agg cs.toArray):=bv
def aaR:aC TE m 148 (.pointer (some a))=D.cellAt m a:=bv
def Q6:aC TE m 149 (.pointer (some a))=D.cellAt m a:=bv
def K4:aC TE m 22 (.pointer (some a))=D.cellAt m a:=bv
def HE:aC TE m 228 (.pointer (some a))=D.cellAt m a:=bv
def adn:aC TE m 23 (.pointer (some a))=D.cellAt m a:=bv
def Cr:aC TE m 230 (.pointer (some a))=D.cellAt m a:=bv
def Q5:aC TE m 234 (.pointer (some a))=(D.loadCells m a 5).map (λcs=> .agg cs.toArray):=bv
def K3:aC TE m 25 (.pointer (some a))=(D.loadCells m a 3).map (λcs=> .agg cs.toArray):=bv
def dV:aC TE m 27 (.pointer (some a))=D.cellAt m a:=bv
def cW:aC TE m 29 (.pointer (some a))=(D.loadCells m a 1).map (λcs=> .agg cs.toArray):=bv
def bP:aC TE m 3 (.pointer (some a))=D.cellAt m a:=bv
def jC:aC TE m 30 (.pointer (some a))=D.cellAt m a:=bv
def aev:aC TE m 309 (.pointer (some a))=(D.loadCells m a 3).map (λcs=> .agg cs.toArray):=bv
def oQ:aC TE m 32 (.pointer (some a))=(D.loadCells m a 2).map (λcs=> .agg cs.toArray):=bv
def ace:aC TE m 33 (.pointer (some a))=D.cellAt m a:=bv
def FM:aC TE m 34 (.pointer (some a))=D.cellAt m a:=bv
def UO:aC TE m 35 (.pointer (some a))=D.cellAt m a:=bv
def UN:aC TE m 37 (.pointer (some a))=(D.loadCells m a 5).map (λcs=> .agg cs.toArray):=bv
def sQ:aC TE m 4 (.pointer (some a))=D.cellAt m a:=bv
def oP:aC TE m 41 (.pointer (some a))=D.cellAt m a:=bv
def oO:aC TE m 43 (.pointer (some a))=(D.loadCells m a 6).map (λcs=> .agg cs.toArray):=bv
def qR:aC TE m 46 (.pointer (some a))=(D.loadCells m a 2).map (λcs=> .agg cs.toArray):=bv
def xE:aC TE m 48 (.pointer (some a))=(D.loadCells m a 4).map (λcs=> .agg cs.toArray):=bv
def K2:aC TE m 50 (.pointer (some a))=(D.loadCells m a 8).map (λcs=> .agg cs.toArray):=bv
def ab5:aC TE m 54 (.pointer (some a))=D.cellAt m a:=bv
def aeq:aC TE m 58 (.pointer (some a))=(D.loadCells m a 11).map (λcs=> .agg cs.toArray):=bv
def K0:aC TE m 60 (.pointer (some a))=(D.loadCells m a 3).map (λcs=> .agg cs.toArray):=bv
def UK:aC TE m 62 (.pointer (some a))=(D.loadCells m a 6).map (λcs=> .agg cs.toArray):=bv
def AS:aC TE m 68 (.pointer (some a))=(D.loadCells m a 5).map (λcs=> .agg cs.toArray):=bv
def KZ:aC TE m 85 (.pointer (some a))=(D.loadCells m a 7).map (λcs=> .agg cs.toArray):=bv
def FL:aC TE m 87 (.pointer (some a))=(D.loadCells m a 15).map (λcs=> .agg cs.toArray):=bv
def FK:aC TE m 96 (.pointer (some a))=(D.loadCells m a 5).map (λcs=> .agg cs.toArray):=bv
def Bw:TE.ty.get 103=some ai.t103:=bv
def ab0:TE.ty.get 149=some ai.t149:=bv
def Xg:TE.ty.get 157=some ai.t157:=bv
def Wh:TE.ty.get 22=some ai.t22:=bv
def lq:TE.ty.get 234=some ai.t234:=bv
def GP:TE.ty.get 27=some ai.t27:=bv
def im:TE.ty.get 29=some ai.t29:=bv
def yy:TE.ty.get 3=some ai.t3:=bv
def D7:TE.ty.get 30=some ai.t30:=bv
def Bv:TE.ty.get 309=some ai.t309:=bv
def eF:TE.ty.get 32=some ai.t32:=bv
def Kj:TE.ty.get 33=some ai.t33:=bv
def PA:TE.ty.get 34=some ai.t34:=bv
def Wg:TE.ty.get 35=some ai.t35:=bv
def oH:TE.ty.get 37=some ai.t37:=bv
def E9:TE.ty.get 4=some ai.t4:=bv
def uN:TE.ty.get 41=some ai.t41:=bv
def dO:TE.ty.get 43=some ai.t43:=bv
def fR:TE.ty.get 46=some ai.t46:=bv
def zE:TE.ty.get 48=some ai.t48:=bv
def wB:TE.ty.get 50=some ai.t50:=bv
def wA:TE.ty.get 58=some ai.t58:=bv
def Ki:TE.ty.get 60=some ai.t60:=bv
def nL:TE.ty.get 68=some ai.t68:=bv
def GO:TE.ty.get 85=some ai.t85:=bv
def kV:TE.ty.get 96=some ai.t96:=bv
def U5{f:Nat}{c:Func}(h:Tryz.prog.funcs[f]?=some c)(g:(TE.fn.get f).isSome:=by kernel_rfl):TE.fn.get f=some c:=by cases e:TE.fn.get f with| none=>rw[e]at g;cases g| some d=>have q:=ai.ok.fn f d e;rw[h]at q;cases q;rfl
end Go.Proofs.YthffgohpkjpkbaaGreatDoor
namespace Go.D
open Go
variable{m m':M}{b:Option Addr}
structure Nf(P Q:Prop):Prop where
 e:P=Q
def nfI{P Q:Prop}(h:Nf P Q):Nf P Q:=h
variable{W:Words}
def nfM{f F:M->Prop}(h:m=m')(h2:∀v,Nf (f v) (F v)):Nf (W.nW m f) (W.nW m' F):=⟨by rw[h,funext λv=>(h2 v).e]⟩
def nfS{α:Type}{a F:Option α}{f f':α->Prop}(h:a=F)(h2:∀v,Nf (f v) (f' v)):Nf (W.aS a f) (W.aS F f'):=⟨by rw[h,funext λv=>(h2 v).e]⟩
def nf2{α β:Type}{a F:Option (α×β)}{f f':α->β->Prop}(h:a=F)(h2:∀v w,Nf (f v w) (f' v w)):Nf (W.dh a f) (W.dh F f'):=⟨by rw[h,funext λv=>funext λw=>(h2 v w).e]⟩
def nfC{g F:Fn}{l l':ν}{f f':O->M->Nat->Prop}(h0:g=F)(h1:l=l')(h:m=m')(h2:∀a b c,Nf (f a b c) (f' a b c)):Nf (W.lU g l m f) (W.lU F l' m' f'):=⟨by rw[h0,h1,h,funext λv=>funext λw=>funext λz=>(h2 v w z).e]⟩
def nfV{v v':O}{P Q F Q':Prop}(h:v=v')(h1:Nf P F)(h2:Nf Q Q'):Nf (iS v P Q) (iS v' F Q'):=⟨by rw[h,h1.e,h2.e]⟩
def nfU{v v':ν}{f F:O->ν->Prop}(h:v=v')(h2:∀a b,Nf (f a b) (F a b)):Nf (W.un v f) (W.un v' F):=⟨by rw[h,funext λv=>funext λw=>(h2 v w).e]⟩
def nfJ{G F:(ν->M->Nat->Prop)->Prop}{k k':ν->M->Nat->Prop}(h1:∀R,Nf (G R) (F R))(h2:∀a b c,Nf (k a b c) (k' a b c)):Nf (W.jn G k) (W.jn F k'):=⟨by rw[funext λR=>(h1 R).e,funext λv=>funext λw=>funext λz=>(h2 v w z).e]⟩
def nfL{F F':(ν->M->Nat->Prop)->ν->M->Nat->Prop}{vs b0:ν}{lo d0:Nat}(h1:∀P a b c,Nf (F P a b c) (F' P a b c))(h2:vs=b0)(h3:m=m')(h4:lo=d0):Nf (W.Lp F vs m lo) (W.Lp F' b0 m' d0):=⟨by rw[h2,h3,h4,funext λP=>funext λv=>funext λw=>funext λz=>(h1 P v w z).e]⟩
def nf0{α:Type}{a F:Option α}{f f':α->Prop}(h:a=F)(h2:∀v,Nf (f v) (f' v)):Nf (aS a f) (aS F f'):=⟨by rw[h,funext λv=>(h2 v).e]⟩
def nfF{v v':O}{P F:Fn->Array O->Array O->Prop}(h:v=v')(h2:∀a b c,Nf (P a b c) (F a b c)):Nf (rO v P) (rO v' F):=⟨by rw[h,funext λv=>funext λw=>funext λz=>(h2 v w z).e]⟩
def nfA{P Q F Q':Prop}(h:P=F)(h2:Nf Q Q'):Nf (P/\Q) (F/\Q'):=⟨by rw[h,h2.e]⟩
def nfR{R:ν->M->Nat->Prop}{a a':ν}{lo F:Nat}(h1:a=a')(h2:m=m')(h3:lo=F):Nf (R a m lo) (R a' m' F):=⟨by rw[h1,h2,h3]⟩
def nfN:Nf False False:=⟨rfl⟩
theorem nfa{l:ν}:cells (.agg ⟨l⟩)=l:=rfl
theorem nfi{k:IntKind}{z:Int}:cells (.int k z)=[.int k z]:=rfl
theorem nfs{n c:Nat}:cells (.slice b n c)=[.slice b n c]:=rfl
theorem nfb{b:Bool}:cells (.bool b)=[.bool b]:=rfl
theorem nfp:cells (.pointer b)=[.pointer b]:=rfl
theorem nft{b:ByteArray}:cells (.string b)=[.string b]:=rfl
theorem nfm{b:Option Nat}:cells (.map b)=[.map b]:=rfl
theorem nfc{α:Type}{a b:α}{l r:List α}:(a::l)++(b::r)=a::(l++b::r):=rfl
theorem nfd{α:Type}{a:α}{l:List α}:(a::l)++([]:List α)=a::(l++ []):=rfl
theorem nff:cells .nilFunc=[.nilFunc]:=rfl
theorem nfn:cells .nilIface=[.nilIface]:=rfl
def cN{P Q:Prop}(h:Nf P Q:=by repeat' first|intro _|(apply nfI;(conv=>arg 1;whnf);first|apply nfS|apply nf2|apply nfV|apply nfC|apply nfU|apply nfM|apply nfJ|apply nfL|apply nf0|apply nfF|apply nfA|exact nfN|apply nfR)|((try dsimp only[KV.val,pg,KT.get,KT.set,KT.del,tB,forget,cond,nfa,nfi,nfs,nfb,nfp,nft,nfm,nff,nfn,List.nil_append,nfd,nfc]);(try rfl);done)):P=Q:=h.e
end Go.D
namespace Go.Proofs.YthffgohpkjpkbaaGreatDoor
variable{R:ν->M->Nat->Prop}{X:aF}{T e t:TypeId}{a n:Int}{b i:Nat}{ts:List TypeId}{g:Option Nat}
section
set_option maxRecDepth 100000
set_option maxHeartbeats 0
variable{W:Words}{x0 x1 x2:O}{m:M}{R:ν->M->Nat->Prop}
def F124:=cN (P:=dB TE W f124 [x0,x1] m R)
def F125:=cN (P:=dB TE W f125 [x0] m R)
def F81:=cN (P:=dB TE W f81 [x0,x1,x2] m R)
def F78:=cN (P:=dB TE W f78 [x0] m R)
def F80:=cN (P:=dB TE W f80 [x0] m R)
def F127:=cN (P:=dB TE W f127 [x0,x1] m R)
def F92:=cN (P:=dB TE W f92 [x0,x1] m R)
def F141:=cN (P:=dB TE W f141 [x0] m R)
def F53:=cN (P:=dB TE W f53 [x0] m R)
end
section
abbrev Jm(f:Nat):Bool:=(Nat.beq f 99999 ||Nat.beq f 99999 ||Nat.beq f 154 ||Nat.beq f 111 ||Nat.beq f 58 ||Nat.beq f 99999 ||Nat.beq f 128 ||Nat.beq f 99999 ||Nat.beq f 333 ||Nat.beq f 277 ||Nat.beq f 336 ||Nat.beq f 103 ||Nat.beq f 99999 ||Nat.beq f 99999 ||Nat.beq f 94 ||Nat.beq f 91 ||Nat.beq f 97 ||Nat.beq f 6)
structure cp(X:aF):Prop where
 no:∀f,Jm f=false->GC X f
abbrev C(X:aF):=Cl TE X
abbrev xw(X:aF)(n:Nat):=λa m=>C X (.func n) a m m.n
section
variable {X:aF} {f:Nat} {fn:Func} {args:ν} {m:M} {v:O} {β:Type} {mk:β->O} {Q:β->M->Prop} {R:O->M->Prop} {G:Prop}
def Cl.fl(F:cp X)(hf:TE.fn.get f=some fn)(h:dB TE (aH TE X) fn args m λvs m' lo=>aP vs=v/\m.n<=lo)(h0:Jm f=false:=by exact rfl)(hl:Nat.ble args.length fn.ntmps:=by exact rfl)(hv:aZ v:=by exact rfl):C X (.func f) args m m.n v m:=Cl.flat (F.no f h0) hf hl hv h
def Cl.fG(F:cp X)(hf:TE.fn.get f=some fn)(h:fQ TE (aH TE X) fn args m λvs m' lo=>aP vs=v/\m.n<=lo)(h0:Jm f=false:=by exact rfl)(hl:Nat.ble args.length fn.ntmps:=by exact rfl)(hv:aZ v:=by exact rfl):C X (.func f) args m m.n v m:=Cl.xS (F.no f h0) hf hl hv h
def Cl.ky(F:cp X)(hf:TE.fn.get f=some fn)(H:dB TE (aH TE X) fn args m λvs m' lo=>(aZ (aP vs)/\m.n<=lo/\m.n=m.n/\R (aP vs) m)\/((aZ (aP vs)=false\/lo<m.n)/\min m.n lo=m.n/\R (aP vs) m'))(k:∀v m',C X (.func f) args m m.n v m'->R v m'->G)(h0:Jm f=false:=by exact rfl)(hl:Nat.ble args.length fn.ntmps:=by exact rfl):G:=by obtain⟨v,m',b,hc,rfl,h⟩:=Cl.gen (R:=λv m' b=>b=m.n/\R v m') (F.no f h0) hf hl H;exact k v m' hc h
def Cl.kyG(F:cp X)(hf:TE.fn.get f=some fn)(H:fQ TE (aH TE X) fn args m λvs m' lo=>(aZ (aP vs)/\m.n<=lo/\m.n=m.n/\R (aP vs) m)\/((aZ (aP vs)=false\/lo<m.n)/\min m.n lo=m.n/\R (aP vs) m'))(k:∀v m',C X (.func f) args m m.n v m'->R v m'->G)(h0:Jm f=false:=by exact rfl)(hl:Nat.ble args.length fn.ntmps:=by exact rfl):G:=by obtain⟨v,m',b,hc,rfl,h⟩:=Cl.HR (R:=λv m' b=>b=m.n/\R v m') (F.no f h0) hf hl H;exact k v m' hc h
def Cl.kI(F:cp X)(hf:TE.fn.get f=some fn)(H:dB TE (aH TE X) fn args m λvs m' lo=>(aZ (aP vs)/\m.n<=lo/\m.n=m.n/\R (aP vs) m)\/((aZ (aP vs)=false\/lo<m.n)/\min m.n lo=m.n/\R (aP vs) m'))(h0:Jm f=false:=by exact rfl)(hl:Nat.ble args.length fn.ntmps:=by exact rfl):∃v m',C X (.func f) args m m.n v m'/\R v m':=Cl.ky F hf H (λ_ _ hc h=>⟨_,_,hc,h⟩) h0 hl
def Cl.Iz(F:cp X)(hf:TE.fn.get f=some fn)(H:fQ TE (aH TE X) fn args m λvs m' lo=>(aZ (aP vs)/\m.n<=lo/\m.n=m.n/\R (aP vs) m)\/((aZ (aP vs)=false\/lo<m.n)/\min m.n lo=m.n/\R (aP vs) m'))(h0:Jm f=false:=by exact rfl)(hl:Nat.ble args.length fn.ntmps:=by exact rfl):∃v m',C X (.func f) args m m.n v m'/\R v m':=Cl.kyG F hf H (λ_ _ hc h=>⟨_,_,hc,h⟩) h0 hl
end
structure Pl where
 x:Int
 y:Int
deriving DecidableEq
def Pl.c(p:Pl):ν:=[.int .i64 p.x,.int .i64 p.y]
abbrev Pl.v(p:Pl):O:=.agg #[.int .i64 p.x,.int .i64 p.y]
instance:aL Pl where
 ty:=46
 sz:=2
 agg:=true
 dN:=[]
 rep _ p cs:=cs=p.c
 pos:=ce
 one:=J
 len:=by rintro _ _ _ rfl;rfl
 iy:=by rintro _ _ _ rfl;rfl
 aX:=J
def cO:qs TE 41 46 Pl:=⟨ai.t41,ai.t46,bv,⟨_,rfl⟩,rfl,bv,rfl,rfl⟩
def zu:vp TE 41 Pl:=⟨ai.t41,ai.t46,bv,rfl,rfl,bv,ce,rfl⟩
instance:aL Int where
 ty:=3
 sz:=1
 agg:=false
 dN:=[]
 rep _ n cs:=cs=[.int .i64 n]
 pos:=ce
 one:=J
 len:=J
 iy:=by rintro _ _ _ rfl;rfl
 aX:=J
def mX:qs TE 116 3 Int:=⟨ai.t116,ai.t3,bv,⟨_,rfl⟩,rfl,bv,rfl,rfl⟩
def V0:vp TE 116 Int:=⟨ai.t116,ai.t3,bv,rfl,rfl,bv,ce,rfl⟩
def idx{α:Type}(p:α->Bool):List α->Int
 |[]=> -1
 |x::l=>if p x then 0 else match idx p l with |.ofNat n=>n+1 |.negSucc _=> -1
theorem iG{α:Type}(p:α->Bool):∀l:List α,(idx p l= -1/\∀x∈l,p x=false)\/(∃i x,idx p l=(i:Nat)/\l[i]?=some x/\p x/\∀j y,j<i->l[j]?=some y->p y=false)
 |[]=> .inl ⟨rfl,λ_ h=>by cases h⟩
 |x::l=>by cases F:p x with|true=>exact .inr ⟨0,x,by simp[idx,F],rfl,F,λj y hj=>Z⟩|false=>rcases iG p l with⟨h1,h2⟩|⟨i,y,h1,h2,h3,h4⟩;refine .inl ⟨by simp only[idx,F,h1];rfl,λz hz=>?_⟩;grind;refine .inr ⟨i+1,y,by simp only[idx,F,h1];rfl,J,h3,λj z hj hz=>?_⟩;cases j with|zero=>simp at hz;subst hz;exact F|succ j=>exact h4 j z Z (by simpa using hz)
def FV{α:Type}{p:α->Bool}{l:List α}{i:Nat}{x:α}(hx:l[i]?=some x)(hp:p x)(h:∀j y,j<i->l[j]?=some y->p y=false):idx p l=i:=by rcases iG p l with⟨F,h2⟩|⟨k,y,F,h2,h3,h4⟩;grind;grind
def xN{α:Type}{p:α->Bool}{l:List α}(h:∀x∈l,p x=false):idx p l= -1:=by rcases iG p l with⟨F,h2⟩|⟨k,y,F,h2,h3,h4⟩;exact F;grind
def lI{α:Type}{p:α->Bool}{l:List α}:decide (0<=idx p l)=l.any p:=by rcases iG p l with⟨F,h2⟩|⟨k,y,F,h2,h3,h4⟩;grind;grind
def Lg{α:Type}{p:α->Bool}{l:List α}:decide (idx p l<0)= !(l.any p):=by rw[<-lI];grind
abbrev FW(T t:TypeId)(W:Words)(x0 x1:O)(m:M)(R:ν->M->Nat->Prop):Prop:=
(W.dh (aR TE m .len [T] [x0]) λv1 _=>(W.Lp (λP2 d0 m4 F=>W.un d0 λv6 r7=>W.un r7 λv8 r9=>(W.aS (bE TE .lss 3 v8 v1) λv10=>(iS v10
(W.aS (aD TE T x0 v8) λv11=>(W.aS (aC TE m4 t v11) λv12=>(rO x1 λg13 f14 e0=>(W.lU g13 (f14.toList++([v12]++e0.toList)) m4 λg0 m17 b0=>(iS g0
(R [v8] m17 (min F b0))
(W.aS (bE TE .add 3 v8 (.int .i64 1)) λh0=>(P2 [v6,h0] m17 (min F b0))))))))
(R [.int .i64 (-1)] m4 F)))) [.int .i64 0,.int .i64 0] m (M.n m)))
def aaG{W:Words}{x0 x1:O}{m:M}:dB TE W f175 [x0,x1] m R=FW 41 46 W x0 x1 m R:=bv
def uC{W:Words}{x0 x1:O}{m:M}:dB TE W f87 [x0,x1] m R=FW 27 43 W x0 x1 m R:=bv
def FT{α:Type}[aL α](hT:qs TE T t α){m:M}{l:List α}{v:O}{g:Fn}{fi ca:Array O}{R:ν->M->Nat->Prop}(wn:Nat->M->Nat->Prop)(d0:Nat->M->Nat->Prop)(p:Nat->Bool)(hb:l.length<4611686018427387904)
  (hl:∀i m lo,wn i m lo->wj m l v)
  (hs:∀i x m1 F,l[i]?=some x->wn i m1 F->∀cs,aL.rep m1 x cs->∃b m2,C X g (fi.toList++([aL.val α cs]++ca.toList)) m1 b (.bool (p i)) m2/\(p i->d0 i m2 (min F b))/\(p i=false->wn (i+1) m2 (min F b)))
  (h0:wn 0 m m.n) (e0:∀i m2 iH,i<l.length->p i->d0 i m2 iH->R [I i] m2 iH) (g0:∀m2 iH,wn l.length m2 iH->R [I (-1)] m2 iH):
  FW T t (aH TE X) v (.func g fi ca) m R:=by dsimp only[FW,aH];rw[(hl 0 m m.n h0).len hT,an];refine Lp.intro (γ:=Nat) (λi=>l.length-i) (λi vs m lo=>∃w,vs=[w,I i]/\i<=l.length/\wn i m lo) 0 ⟨_,rfl,Vw _,h0⟩ ?_;rintro i vs m1 F ⟨w,rfl,hi,hJ⟩;simp only[av,aK,Y,ag];refine af (λh=>?_) (λh=>?_);have b0:i<l.length:=J;have hx:l[i]?=some l[i]:=QC b0;have⟨a,cs,e1,e2,hr⟩:=(hl i m1 F hJ).index hT (k:=.i64) hx;rw[e1,Y,e2,Y,cj];obtain⟨b,m2,hc,i0,j0⟩:=hs i _ m1 F hx hJ cs hr;apply aw hc;rw[ag];refine af (λhp=>?_) (λhp=>?_);exact e0 i _ _ b0 hp (i0 hp);simp only[aO,Y];refine⟨i+1,Z,w,?_,b0,j0 hp⟩;rw[wrap64];rfl;have k0:i=l.length:=(by have:¬((i:Int)< (l.length:Int)):=J;omega);subst k0;exact g0 _ _ hJ
def DH{α:Type}[aL α](hT:qs TE T t α){f:Nat}{fn:Func}(hX:GC X f)(hf:TE.fn.get f=some fn)(hn:Nat.ble 2 fn.ntmps)
  (hF:∀{W:Words} {x0 x1:O} {m:M} {R:ν->M->Nat->Prop},dB TE W fn [x0,x1] m R=FW T t W x0 x1 m R)
  {m:M} {l:List α} {v:O} {g:Fn} {fi ca:Array O} (p:α->Bool) (hb:l.length<4611686018427387904) (hl:wj m l v)
  (hs:∀x∈l,∀cs,aL.rep m x cs->C X g (fi.toList++([aL.val α cs]++ca.toList)) m m.n (.bool (p x)) m):
  C X (.func f) [v,.func g fi ca] m m.n (I (idx p l)) m:=by refine Cl.flat hX hf hn rfl ?_;rw[hF];refine FT hT (l:=l) (λi m1 lo=>m1=m/\lo=m.n/\∀j x,j<i->l[j]?=some x->p x=false) (λi m1 lo=>m1=m/\lo=m.n/\(∀j x,j<i->l[j]?=some x->p x=false)) (λi=>match l[i]? with|some x=>p x|none=>false) hb ?_ ?_ ⟨rfl,rfl,λj x hj=>Z⟩ ?_ ?_;rintro i m1 lo ⟨rfl,_,_⟩;exact hl;rintro i x m1 lo F ⟨rfl,rfl,hJ⟩ cs hr;rw[F];refine⟨_,_,hs x (QP F) cs hr,λ_=>⟨rfl,MD _,hJ⟩,λhp=>⟨rfl,MD _,λj y hj hy=>?_⟩⟩;by_cases e:j=i;subst e;rw[F]at hy;cases hy;exact hp;exact hJ j y Z hy;rintro i m2 iH b0 hp ⟨rfl,rfl,hJ⟩;have F:l[i]?=some l[i]:=QC b0;rw[F]at hp;exact⟨by rw[aP,FV F hp hJ],R8 _⟩;rintro m2 iH ⟨rfl,rfl,hJ⟩;exact⟨by rw[aP,xN λx F=>by have⟨j,hj⟩:=Px.1 F;exact hJ j x (Nr.1 hj).1 hj],R8 _⟩
def fY{α:Type}[aL α](F:qs TE T t α){f:Nat}{fn:Func}(hX:GC X f)(hf:TE.fn.get f=some fn)(hn:Nat.ble 2 fn.ntmps)
  (hF:∀{W:Words} {x0 x1:O} {m:M} {R:ν->M->Nat->Prop},dB TE W fn [x0,x1] m R=FW T t W x0 x1 m R)
  {m:M} {l:List α} {v:O} {g:Fn} {fi ca:Array O} (p:α->Bool) (hb:l.length<4611686018427387904) (hl:Sl m l v)
  (hs:∀x∈l,∀cs,aL.rep m x cs->C X g (fi.toList++([aL.val α cs]++ca.toList)) m m.n (.bool (p x)) m):
  C X (.func f) [v,.func g fi ca] m m.n (I (idx p l)) m:=DH F hX hf hn hF p hb (.inl hl) hs
def JB(F:cp X){m:M}{l:List Pl}{v:O}{g:Fn}{fi ca:Array O}(p:Pl->Bool)(hb:l.length<4611686018427387904)(hl:Sl m l v)
  (hs:∀x∈l,C X g (fi.toList++([x.v]++ca.toList)) m m.n (.bool (p x)) m):xw X 175 [v,.func g fi ca] m (I (idx p l)) m:=
 fY cO (F.no _ rfl) (U5 func175) rfl aaG p hb hl λx hx cs hr=>by rw[show cs=x.c from hr];exact hs x hx
def vg(F:cp X){m:M}{l:List Pl}{v:O}{g:Fn}{fi ca:Array O}(p:Pl->Bool)(hb:l.length<4611686018427387904)(hl:Sl m l v)
  (hs:∀x∈l,C X g (fi.toList++([x.v]++ca.toList)) m m.n (.bool (p x)) m):xw X 124 [v,.func g fi ca] m (.bool (l.any p)) m:=by apply Cl.fl F (U5 func124);rw[show dB TE (aH TE X) f124 _ m _=_ from F124];dsimp only[aH];apply aw (JB F p hb hl hs);simp only[cZ,Y,lI,aP];exact⟨trivial,Z⟩
end
variable{p:Pl}
variable{X:aF}{m:M}
def aY{G:(ν->M->Nat->Prop)->Prop}{k:ν->M->Nat->Prop}(Q:ν->M->Nat->Prop)(F:∀R:ν->M->Nat->Prop,(∀vs m lo,Q vs m lo->R vs m lo)->G R)(h2:∀vs m lo,Q vs m lo->k vs m lo):jn G k:=F k h2
def xr{G:(ν->M->Nat->Prop)->Prop}{k:ν->M->Nat->Prop}(Q:ν->M->Nat->Prop)(F:∀R:ν->M->Nat->Prop,(∀{vs m lo},Q vs m lo->R vs m lo)->G R)(h2:∀vs m lo,Q vs m lo->k vs m lo):jn G k:=F k (h2 _ _ _)
def uA{k:IntKind}{b:Int}:aR TE m .min ts [.int k a,.int k b]=some (.int k (min a b),m):=by show some (Value.int k (if b<a then b else a),m)=_;grind
def AQ{k:IntKind}{b:Int}:aR TE m .max ts [.int k a,.int k b]=some (.int k (max a b),m):=by show some (Value.int k (if b >a then b else a),m)=_;grind
def bY(h:m.get b=.cells p.c e g):aC TE m 46 (Ω b 0)=some p.v:=by rw[qR,aI h (by simp[Pl.c])];rfl
def dW(a b c:Pl):Int:=(b.x-a.x)*(c.y-a.y)-(b.y-a.y)*(c.x-a.x)
def Wf(x:Int):Int:=IntKind.i64.wrap x
def Kk(a b c:Pl):Int:=Wf (Wf (Wf (b.x-a.x)*Wf (c.y-a.y))-Wf (Wf (b.y-a.y)*Wf (c.x-a.x)))
def T0(hX:cp X)(a b c:Pl):xw X 81 [a.v,b.v,c.v] m (I (Kk a b c)) m:=by apply Cl.fl hX (U5 func81);rw[F81];dsimp only[aH];refine ah λm1 h0 d0 i0=>?_;refine ah λm2 j0 e0 g0=>?_;refine ah λm3 k0 F b0=>?_;have g1:=(b0 m.n Z).trans ((g0 m.n Z).trans d0);have g2:=(b0 m1.n Z).trans e0;simp only[bd]at g1 g2 F;simp only[Y,an,cj,ag,bN,aT,cI,aK,cZ,cC,aJ,bZ,bB,ptrTo,cG,lF,Jf,Nat.reduceAdd,XW,Q7,Mf,UZ,SF,N2,F4,bd,nH,lN,jX,nF,nG,lM,cV,dZ,bP,aG g1,aG g2,aG F,fa,kO];exact⟨rfl,R8 _⟩
def Pl.sm(N:Int)(p:Pl):Prop:= -N<=p.x/\p.x<=N/\ -N<=p.y/\p.y<=N
def Er{b N:Int}(ha: -N<=a)(F:a<=N)(hb: -N<=b)(b0:b<=N): -(N*N)<=a*b/\a*b<=N*N:=by have h0:0<=N:=Z;have h1:0<=(N-a)*(N+b):=TL Z Z;have h2:0<=(N+a)*(N-b):=TL Z Z;have h3:0<=(N-a)*(N-b):=TL Z Z;have h4:0<=(N+a)*(N+b):=TL Z Z;grind
def GQ{a b c:Pl}(F:a.sm 1000000)(hb:b.sm 1000000)(hc:c.sm 1000000):Kk a b c=dW a b c:=by have⟨a1,a2,a3,a4⟩:=F;have⟨b1,b2,b3,b4⟩:=hb;have⟨c1,c2,c3,c4⟩:=hc;have p:=Er (a:=b.x-a.x) (b:=c.y-a.y) (N:=2000000) Z Z Z Z;have q:=Er (a:=b.y-a.y) (b:=c.x-a.x) (N:=2000000) Z Z Z Z;unfold Kk dW Wf;rw[wrap64 (x:=b.x-a.x) Z Z,wrap64 (x:=c.y-a.y) Z Z,wrap64 (x:=b.y-a.y) Z Z,wrap64 (x:=c.x-a.x) Z Z];rw[wrap64 (x:=(b.x-a.x)*(c.y-a.y)) Z Z,wrap64 (x:=(b.y-a.y)*(c.x-a.x)) Z Z,wrap64]
def Pl.off(p:Pl):Bool:=decide (min p.x p.y < 0) ||decide (40 < max p.x p.y)
def Pl.on(h:p.off=false):0<=p.x/\p.x<=40/\0<=p.y/\p.y<=40:=by simp only[Pl.off,UP,SU]at h;omega
def Pl.QI(h:p.off=false):p.sm 1000000:=by have:=Pl.on h;exact⟨Z,Z,Z,Z⟩
def Rm(hX:cp X)(p:Pl):xw X 125 [p.v] m (.bool p.off) m:=by apply Cl.fl hX (U5 func125);rw[F125];dsimp only[aH];refine ah λm1 b0 F d0=>?_;simp only[bd]at F;refine xr (λvs m2 lo=>vs=[.bool p.off]/\lo=m.n) (λR hR=>?_) ?_;simp only[Y,an,cj,ag,bN,aT,cI,aK,cZ,cC,aJ,bZ,bB,ptrTo,cG,lF,Jf,Nat.reduceAdd,XW,Q7,Mf,UZ,SF,N2,F4,bd,nH,lN,jX,nF,nG,lM,cV,dZ,bP,aG F,uA,AQ];refine af (λh=>hR ⟨by simp only[Pl.off,h];rfl,rfl⟩) (λh=>hR ⟨by simp only[Pl.off,h];rfl,rfl⟩);rintro _ m2 _ ⟨rfl,rfl⟩;rw[av];exact⟨rfl,R8 _⟩
def Qc(l:List Pl)(i:Nat):Bool:=match l[i]?,l[(i+1)%l.length]? with
 |some a,some b=>l.zipIdx.all λ(c,k)=>k==i ||k==(i+1)%l.length ||decide (0 < dW a b c)
 |_,_=>false
def rJ(l:List Pl):Bool:=(List.range l.length).all (Qc l)
def bO(l:List Pl):Bool:=decide (3<=l.length) && decide (l.length<=8) && !(l.any Pl.off) && rJ l
def dM{l:List Pl}(h:bO l):3<=l.length/\l.length<=8:=by simp only[bO,G4,Xo]at h;grind
def Bs{l:List Pl}(h:bO l):∀p∈l,p.off=false:=by simp only[bO,G4,yC,J3]at h;grind
def me{l:List Pl}(h:bO l):∀p∈l,p.sm 1000000:=λp F=>Pl.QI (Bs h p F)
def wL{l:List Pl}{a b:Pl}(F:l[i]?=some a)(hb:l[(i+1)%l.length]?=some b):
  Qc l i↔∀k c,l[k]?=some c->k=i\/k=(i+1)%l.length\/0<dW a b c:=by unfold Qc;rw[F,hb];simp only[SB];constructor;intro h k c hc;have:=h (c,k) J;grind;grind
def IE{l:List Pl}(h:bO l){i k:Nat}{a b c:Pl}(F:l[i]?=some a)(hb:l[(i+1)%l.length]?=some b)(hc:l[k]?=some c)(h1:k≠i)(h2:k≠(i+1)%l.length):0<dW a b c:=by simp only[bO,G4,rJ,SB,QJ]at h;have hr:=h.2 i (Nr.1 F).1;rcases(wL F hb).1 hr k c hc with h|h|h;grind;grind;exact h
def AD(F:cp X){a b c:Pl}(ha:a.sm 1000000)(hb:b.sm 1000000)(hc:c.sm 1000000):xw X 81 [a.v,b.v,c.v] m (I (dW a b c)) m:=by rw[<-GQ ha hb hc];exact T0 F a b c
theorem _root_.Go.D.Sl.fN{l:List Pl}{v:O}(h:Sl m l v){i:Nat}{p:Pl}(hi:l[i]?=some p){k:IntKind}:∃a,aD TE 41 v (.int k i)=some a/\aC TE m 46 a=some p.v:=by have⟨a,cs,h1,F,h3⟩:=h.index cO (k:=k) hi;rw[show cs=p.c from h3]at F;exact⟨a,h1,F⟩
def AM{a:Nat}(F:b≠0):bE TE .rem t (I a) (I b)=some (I ((a%b:Nat):Int)):=by rw[yi Z];rfl
def mg(hX:cp X){l:List Pl}{v:O}(hl:Sl m l v)(hb:l.length<4611686018427387904):xw X 78 [v] m (.bool (bO l)) m:=by
 apply Cl.fl hX (U5 func78);rw[F78];dsimp only[aH];refine xr (λvs m2 lo=>vs=[.bool (!(decide (3<=l.length) && decide (l.length<=8) && !(l.any Pl.off)))]/\m=m2/\m.n=lo) (λR hR=>?_) ?_;rw[hl.len cO];simp only[Y,an,cj,ag,bN,aT,cI,aK,cZ,cC,aJ,bZ,bB,ptrTo,cG,lF,Jf,Nat.reduceAdd,XW,Q7,Mf,UZ,SF,N2,F4,bd,nH,lN,jX,nF,nG,lM];refine af (λh=>hR ⟨J,rfl,rfl⟩) (λh=>?_);have h3:3<=l.length:=J;refine af (λh=>hR ⟨J,rfl,rfl⟩) (λh=>?_);have h8:l.length<=8:=J;apply aw (vg hX Pl.off hb hl λx _=>Rm hX x);exact hR ⟨J,rfl,(MD _).symm⟩;rintro _ _ _ ⟨rfl,rfl,rfl⟩;rw[av,ag];refine af (λh=>?_) (λh=>?_);refine⟨?_,R8 _⟩;simp only[yC]at h;simp only[aP,bO,h,Ns];simp only[HO]at h;simp only[G4,Xo,yC]at h;have⟨⟨h3,h8⟩,b0⟩:=h;have p0:∀p∈l,p.sm 1000000:=λp hp=>Pl.QI (by rw[J3]at b0;simpa using b0 p hp);have hv:∀r,rJ l=r->bO l=r:=λr hr=>(by simp[bO,h3,h8,b0,hr]);rw[hl.len cO,an];refine Lp.intro (γ:=Nat) (λi=>l.length-i) (λi vs m1 lo=>vs=[P6,I i]/\i<=l.length/\Ext m m1/\m.n<=lo/\∀j,j<i->Qc l j) 0 ⟨rfl,Vw _,.refl,R8 _,λj hj=>Z⟩ ?_;rintro i vs m1 p1 ⟨rfl,hi,hx,P0,h0⟩;simp only[av,aK,Y,ag];refine af (λq0=>?_) (λr1=>?_);have q0:i<l.length:=J;obtain⟨pa,d0⟩:∃p,l[i]?=some p:=⟨_,QC q0⟩;have Q0:(i+1)%l.length<l.length:=T7 _ Z;obtain⟨pb,e0⟩:∃p,l[(i+1)%l.length]?=some p:=⟨_,QC Q0⟩;have⟨q,e1,e2⟩:=(hl.ak hx).fN (k:=.i64) d0;rw[e1,Y,e2,Y];refine ah λm2 u1 a1 b1=>?_;simp only[ptrTo];refine aj fR a1 rfl rfl rfl λm3 v1 c1 d1=>?_;have u0:Ext m m3:=⟨by have:=hx.n;omega,λb hb=>by have:=hx.n;rw[d1 b Z,b1 b Z,hx.get b hb]⟩;simp only[aO,Y];rw[wrap64,(hl.ak u0).len cO,an];rw[show((i:Int)+1)=((i+1:Nat):Int) by omega,AM Z,Y,an];refine Lp.intro (γ:=Nat) (λk=>l.length-k) (λk vs m4 r0=>vs=[P6,I k]/\k<=l.length/\Ext m m4/\m1.n<m4.n/\m4.get m1.n=.cells pa.c 46 none/\m.n<=r0/\∀j c,j<k->l[j]?=some c->j=i\/j=(i+1)%l.length\/0<dW pa pb c) 0 ⟨rfl,Vw _,u0,Z,c1,by have:=hx.n;omega,λj c hj=>Z⟩ ?_;rintro k vs m4 r0 ⟨rfl,hk,F,w1,y1,y0,i0⟩;simp only[av,aK,Y,ag];refine af (λj0=>?_) (λo1=>?_);have j0:k<l.length:=J;obtain⟨pc,g0⟩:∃p,l[k]?=some p:=⟨_,QC j0⟩;have⟨q,e1,e2⟩:=(hl.ak F).fN (k:=.i64) g0;rw[e1,Y,e2,Y];refine ah λm5 A1 g1 h1=>?_;refine aj fR g1 rfl rfl rfl λm6 B1 i1 j1=>?_;have A0:Ext m m6:=⟨by have:=F.n;omega,λb hb=>by have:=F.n;rw[j1 b Z,h1 b Z,F.get b hb]⟩;have k0:m6.get m1.n=.cells pa.c 46 none:=J;refine xr (λvs m7 lo=>vs=[.bool (!(k==i ||k==(i+1)%l.length ||decide (0<dW pa pb pc)))]/\m7=m6/\m.n<=lo) (λR hR=>?_) ?_;simp only[bZ,Y,ag];have l0:m.n<=min r0 m4.n:=(by have:=F.n;omega);refine af (λB0=>?_) (λhe=>?_);have B0:k≠i:=J;refine af (λn0=>?_) (λG1=>?_);have n0:k≠(i+1)%l.length:=J;rw[bY k0,Y];have⟨q,e1,e2⟩:=(hl.ak A0).fN (k:=.i64) e0;rw[e1,Y,e2,Y,bY i1,Y];apply aw (AD hX (p0 _ (QP d0)) (p0 _ (QP e0)) (p0 _ (QP g0)));simp only[cI,Y];refine hR ⟨?_,rfl,J⟩;have:decide (dW pa pb pc<=0)= !(decide (0<dW pa pb pc)):=J;rw[this];simp[B0,n0];refine hR ⟨?_,rfl,l0⟩;have:k=(i+1)%l.length:=(by have h':(k:Int)=(((i+1)%l.length:Nat):Int):=J;omega);simp[this]
 refine hR ⟨?_,rfl,l0⟩;have:k=i:=J;simp[this];rintro _ m7 H1 ⟨rfl,rfl,o0⟩;rw[av,ag];refine af (λO0=>?_) (λs0=>?_);have hc:rJ l=false:=(by cases hc:rJ l with|false=>rfl|true=>simp only[rJ,SB,QJ]at hc;have h2:=(wL d0 e0).1 (hc i q0) k pc g0;simp only[yC,UP,beq_eq_false_iff_ne,SU]at O0;omega);exact⟨by rw[hv false hc];rfl,o0⟩;simp only[aO,Y];rw[wrap64];refine⟨k+1,Z,co,Z,A0,Z,k0,o0,λj c hj hc=>?_⟩;by_cases k1:j<k;exact i0 j c k1 hc;have:j=k:=Z;subst this;rw[g0]at hc;cases hc;simp only[HO,QA,beq_iff_eq,Xo]at s0;omega;have K1:k=l.length:=(by have:¬(k:Int)< (l.length:Int):=J;omega);refine⟨i+1,Z,co,Z,F,y0,λj hj=>?_⟩;by_cases l1:j<i;exact h0 j l1;have:j=i:=Z;subst this;rw[wL d0 e0];intro q c hq;exact i0 q c J hq;have L1:i=l.length:=(by have:¬(i:Int)< (l.length:Int):=J;omega);have hc:rJ l:=SB.2 λj hj=>h0 j J;exact⟨by rw[hv true hc];rfl,P0⟩
def mO(l:List Pl):List (ν):=l.mapIdx λi a=> [a.v,match l[(i+1)%l.length]? with |some b=>b.v |none=>undef]
def acu{l:List Pl}{a b:Pl}(F:l[i]?=some a)(hb:l[(i+1)%l.length]?=some b):(mO l)[i]?=some [a.v,b.v]:=by unfold mO;grind
def zn{l:List Pl}{args:ν}(h:(mO l)[i]?=some args):∃a b,l[i]?=some a/\l[(i+1)%l.length]?=some b/\args=[a.v,b.v]:=by unfold mO at h;rw[List.getElem?_mapIdx,R7]at h;have⟨a,F,h⟩:=h;have b0:=(Nr.1 F).1;obtain⟨b,hb⟩:∃b,l[(i+1)%l.length]?=some b:=⟨_,QC (T7 _ Z)⟩;grind
def uF{l:List Pl}:(mO l).length=l.length:=by unfold mO;rw[List.length_mapIdx]
def zo(hX:cp X){l:List Pl}{v:O}{b:Nat}(hlen:l.length<4611686018427387904):
  GenF TE X (.ob λ_=>False) (.func 127) [] [ptrTo b] (mO l) (λm=>m.get b=.cells [v] 41 none/\Sl m l v):=by intro y n0 B ux wn m hD hI hJ hy p0 hB d0 h0;refine Cl.gen (R:=λv m2 b=>B<=b/\(ux (mO l).length m2\/wn m2)) (hX.no _ rfl) (U5 func127) rfl ?_;rw[show([]:ν)++ .func (.yield y) #[] #[]::[ptrTo b]=[.func (.yield y) #[] #[],ptrTo b]from rfl,F127];dsimp only[aH];have ld:∀m1:M,m1.get b=.cells [v] 41 none->aC TE m1 41 (Ω b 0)=some v:=λm1 h=>(by rw[oP,aG h];rfl);simp only[ptrTo];rw[ld m (hD _ _ h0).1,Y,(hD _ _ h0).2.len cO,an];refine Lp.intro (γ:=Nat) (λi=>l.length-i) (λi vs m1 lo=>vs=[I i]/\i<=l.length/\ux i m1/\n0<=m1.n/\B<=lo/\((i=0/\m1=m/\lo=m.n)\/lo<m.n)) 0 ⟨rfl,Vw _,h0,p0,Z,.inl ⟨rfl,rfl,rfl⟩⟩ ?_;rintro i vs m1 P0 ⟨rfl,hi,e0,Q0,a1,F⟩;simp only[av,aK,Y,ag];refine af (λg0=>?_) (λb1=>?_);have g0:i<l.length:=J;obtain⟨pa,i0⟩:∃p,l[i]?=some p:=⟨_,QC g0⟩;have q0:(i+1)%l.length<l.length:=T7 _ Z;obtain⟨pb,j0⟩:∃p,l[(i+1)%l.length]?=some p:=⟨_,QC q0⟩;obtain⟨q,e1,e2⟩:=(hD _ _ e0).2.fN (k:=.i64) i0;rw[e1,Y,e2,Y];refine ah λm2 c1 r0 d1=>?_;refine aj fR r0 rfl rfl rfl λm3 g1 s0 i1=>?_;have u0:Ext m1 m3:=⟨Z,J⟩;have k0:=hI _ _ _ e0 u0;obtain⟨y0,l0⟩:=hD _ _ k0;rw[bY s0,Y,ld m3 y0,Y];simp only[aO,Y];rw[wrap64,l0.len cO,an];rw[show((i:Int)+1)=((i+1:Nat):Int) by omega,AM Z,Y];have⟨q,e1,e2⟩:=l0.fN (k:=.i64) j0;rw[e1,Y,e2,Y,cj];obtain⟨v2,m4,b4,hc,j1,k1,l1,o0⟩:=d0 i [pa.v,pb.v] m3 Z (acu i0 j0) k0;apply aw hc;have o1:m3.n<=m4.n:=hc.1;rcases o0 with⟨rfl,A0⟩|⟨rfl,B0⟩;simp only[bB,Y,ag,No,aT];exact⟨i+1,Z,rfl,Z,A0,Z,Z,.inr Z⟩;simp only[bB,Y,ag,ME,bN];exact .inr ⟨.inr Z,Z,.inr B0⟩;have O0:i=l.length:=(by have:¬(i:Int)< (l.length:Int):=J;omega);have b0:ux (mO l).length m1:=(by rw[uF,<-O0];exact e0);rcases F with⟨h1,h2,h3⟩|F;rw[h2]at b0;exact .inl ⟨rfl,Z,Z,.inl b0⟩;exact .inr ⟨.inr F,Z,.inl b0⟩
def CV(hX:cp X){v:O}(hv:cells v=[v]):∃m',xw X 80 [v] m (.func (.func 127) #[] #[ptrTo m.n]) m'/\Ext m m'/\m'.n=m.n+1/\m'.get m.n=.cells [v] 41 none:=by obtain⟨v',m',b,hc,rfl,rfl,h⟩:=Cl.heap (R:=λw m' b=>w=.func (.func 127) #[] #[ptrTo m.n]/\b=m.n/\Ext m m'/\m'.n=m.n+1/\m'.get m.n=.cells [v] 41 none) (hX.no _ rfl) (U5 func80) rfl (m:=m) (args:=[v]) (by rw[F80];dsimp only[aH];refine ah λm1 hn F hk=>?_;rw[hv]at F;exact⟨.inl rfl,rfl,Z,⟨Z,λb hb=>hk b hb⟩,hn,F⟩);exact⟨m',hc,h⟩
def dt(a b:Int):Int:=if a < b then -1 else if b < a then 1 else 0
def HK(F:cp X)(a:Int):xw X 141 [I a] m P6 m:=by apply Cl.fl F (U5 func141);rw[F141];dsimp only[aH];simp only[bZ,Y];exact⟨by simp[aP],R8 _⟩
def gj(F:cp X)(a b:Int):xw X 92 [I a,I b] m (I (dt a b)) m:=by apply Cl.fl F (U5 func92);rw[F92];dsimp only[aH];refine aw (HK F a) (aw (HK F b) ?_);simp only[ag,aT,aK,cC,Y];refine af (λh=>?_) (λh=>?_);have:a<b:=J;exact⟨by simp[aP,dt,this],Z⟩;have h1:¬a<b:=J;refine af (λh=>?_) (λh=>?_);have h2:b<a:=J;exact⟨by simp[aP,dt,h1,h2],Z⟩;have h2:¬b<a:=J;exact⟨by simp[aP,dt,h1,h2],Z⟩
def iY(l:List Pl)(p:Pl):Nat->Int
 |0=>4611686018427387903
 |i+1=>match l[i]?,l[(i+1)%l.length]? with
  |some a,some b=>min (iY l p i) (dW a b p)
  |_,_=>iY l p i
def G7(l:List Pl)(p:Pl):Int:=dt (iY l p l.length) 0
def tH:aQ TE m 41 0 []=some (.slice (some ⟨m.n,0,none⟩) 0 0,m.push (.cells [] 46 none)):=bv
def rf(hX:cp X){l:List Pl}{v:O}(hl:Sl m l v)(F:l≠ [])(hs:l.length<=1000000):
  ∃v' m',xw X 53 [v] m v' m'/\Ow m.n m' l v'/\Ext m m':=by have key:=Cl.heap (E:=TE) (X:=X) (f:=53) (args:=[v]) (m:=m) (R:=λv' m' b=>b=m.n/\Ow m.n m' l v'/\Ext m m') (hX.no _ rfl) (U5 func53) rfl ?_;obtain⟨v',m',b,hc,rfl,h3⟩:=key;exact⟨v',m',hc,h3⟩;rw[F53];dsimp only[aH];have b0:bE TE .eql 41 v Z9=some P6:=(by rcases hl with⟨_,rfl⟩|⟨b,o,c,bc,g,rfl,_⟩;exact absurd rfl F;simp only[bE,eq?,uN,ai.t41,F4]);rw[b0];simp only[Y,ag,aT];rw[tH,an];have d0:Ext m (m.push (.cells [] 46 none)):=Ext.refl.push;have⟨v',m1,e1,e0,he,g0⟩:=mD (m:=m.push (.cells [] 46 none)) zu (b:=m.n) M.aU (hl.ak d0) F hs;rw[e1,an];have h0:=e0.flat F;rw[M.jr]at g0;exact⟨.inl h0,Z,e0.mono (by rw[M.jr];omega),d0.trans he⟩
def AO(l:List Pl):ν:=l.flatMap Pl.c
theorem sC{l:List Pl}:AO (p::l)=I p.x::I p.y::AO l:=rfl
theorem wT:∀l:List Pl,(AO l).length=l.length*2
 |[]=>rfl
 |p::l=>by rw[sC,Rq,Rq,wT l,Rq];omega
theorem Wn:∀{l:List Pl} {i:Nat} {p:Pl},l[i]?=some p->(AO l)[i*2]?=some (I p.x)
 |q::l,0,p,h=>by cases h;rfl
 |q::l,i+1,p,h=>by rw[sC,show(i+1)*2=i*2+1+1 by omega,Q7,Q7];exact Wn J
theorem Wm:∀{l:List Pl} {i:Nat} {p:Pl},l[i]?=some p->(AO l)[i*2+1]?=some (I p.y)
 |q::l,0,p,h=>by cases h;rfl
 |q::l,i+1,p,h=>by rw[sC,show(i+1)*2+1=i*2+1+1+1 by omega,Q7,Q7];exact Wm J
theorem Hf:∀{l:List Pl} {i:Nat} {p:Pl} (x:Int),l[i]?=some p->(AO l).set (i*2) (I x)=AO (l.set i ⟨x,p.y⟩)
 |q::l,0,p,x,h=>by cases h;rfl
 |q::l,i+1,p,x,h=>by rw[sC,show(i+1)*2=i*2+1+1 by omega,Dx,Dx,Hf x (by simpa using h),Dx,sC]
def Ek{l:List Pl}(h:l[i]?=some p):chunk (AO l) 2 i=p.c:=by have F:=Wn h;have hy:=Wm h;have hl:=wT l;have hi:=(Nr.1 h).1;unfold chunk;refine Xx λk=>?_;match k with|0=>rw[XM Z,Sa,OX];exact F|1=>rw[XM Z,Sa];exact hy|k+2=>rw[JQ J];rfl
def PU{l:List Pl}{c:Nat}(h:m.get b=.cells (AO l) 46 g):Sl m l (Hr b 0 l.length c):=
 .inr ⟨b,0,c,AO l,g,rfl,h,by rw[wT];show 0+l.length*2<=_;omega,λi x hi=>by rw[Jf];exact Ek hi⟩
def ada{n c:Nat}{k:IntKind}(hi:i<n):aD TE 41 (Hr b 0 n c) (.int k i)=some (Ω b (i*2)):=by have F:0<=(i:Int)/\(i:Int)< (n:Int)/\0<ai.t41.es:=⟨Z,Z,ce⟩;have hd:ai.t41.d=.slice 46:=rfl;simp only[aD,uN,hd];rw[UG F,bs rfl,Jf];rfl
def np{cs:ν}{x:O}(h:i<cs.length):cs.take i++([x]++cs.drop (i+1))=cs.set i x:=by rw[List.set_eq_take_append_cons_drop,UG h];rfl
def Pl.dbl(p:Pl):Pl:=⟨2*p.x,2*p.y⟩
def mixed(l:List Pl)(i:Nat):List Pl:=(l.take i).map Pl.dbl++l.drop i
structure Un where
 id:Int
 kind:Int
 du:Int
 shape:List Pl
 back:Int
 front:Int
abbrev Un.c(u:Un)(w:O):ν:=[.int .i64 u.id,.int .i64 u.kind,.int .i64 u.du,w,.int .i64 u.back,.int .i64 u.front]
instance:aL Un where
 ty:=43
 sz:=6
 agg:=true
 dN:=[46]
 rep m u cs:=∃w,cs=u.c w/\Sl m u.shape w
 pos:=ce
 one:=J
 len:=dg
 iy:=by rintro _ _ _ ⟨w,rfl,h⟩;show(true && (true && (true && (one w && (true && (true && true))))))=true;rw[h.one];rfl
 aX:=by
  rintro m m' u cs ⟨w,rfl,h⟩ hk
  exact⟨w,rfl,h.aX λb c t g hb ht=>hk b c t g hb (by simpa[aL.ty,aL.dN]using ht)⟩
abbrev Un.v(u:Un)(w:O):O:=.agg (u.c w).toArray
abbrev Un.zc:ν:=[.int .i64 0,.int .i64 0,.int .i64 0,.slice none 0 0,.int .i64 0,.int .i64 0]
def bQ{u:Un}{w:O}(h:m.get b=.cells (u.c w) e g):aC TE m 43 (Ω b 0)=some (u.v w):=by rw[oO,aI h co];rfl
def Un.dp{u:Un}{w:O}(hw:one w):(u.c w).all one:=by show(true && (true && (true && (one w && (true && (true && true))))))=true;rw[hw];rfl
def N7(m:M)(o:Option Un)(v:O):Prop:=match o with |some u=>∃w,v=u.v w/\Sl m u.shape w |none=>v=.agg Un.zc.toArray
def adz:aQ TE m 116 1 [(0,.int .i64 n)]=some (.slice (some ⟨m.n,0,none⟩) 1 1,m.push (.cells [.int .i64 n] 3 none)):=bv
def I0(h:m.get b=.cells [I n] 3 g):Sl m [n] (Hr b 0 1 1):=
 .inr ⟨b,0,1,_,g,rfl,h,R8 _,λi x hi=>by match i with|0=>cases hi;rfl|i+1=>cases hi⟩
def gG(c n:Int):Int:=if c < 0 then(-(c+1))%n else c%n
def sD{c:Int}(F:0<n):0<=gG c n/\gG c n<n:=by unfold gG;split;exact⟨Int.emod_nonneg _ Z,Uu _ F⟩;exact⟨Int.emod_nonneg _ Z,Uu _ F⟩
def nK(c:Int):Prop:= -9223372036854775808<=c/\c < 9223372036854775808
def yS{c:Int}(hc:nK c)(hn:0<n){P:O->Prop}(h:P (I (gG c n))):
  aS (bE TE .lss 3 (I c) (I 0)) λv1=>iS v1 (aS (bE TE .add 3 (I c) (I 1)) λv2=>aS (Dr .neg v2) λv3=>aS (bE TE .rem 3 v3 (I n)) λv4=>P v4) (aS (bE TE .rem 3 (I c) (I n)) λv5=>P v5):=by have⟨h1,h2⟩:=hc;simp only[aK,Y,ag];refine af (λF=>?_) (λF=>?_);have F:c<0:=J;simp only[aO,Y];rw[wrap64,E5,Y,wrap64,yi Z,Y];have:gG c n=(0-(c+1)).tmod n:=(by unfold gG;grind);grind;have F:¬c<0:=J;rw[yi Z,Y];have:gG c n=c.tmod n:=(by unfold gG;grind);grind
def dv(n lo hi:Int):Bool:=decide (lo<=n) && decide (n<=hi)
section
open Go Go.D Go.ChangeShapes Go.Proofs.Tryz
def jl(c:Array O):ν:=c.toList.map λv=>bif bL v then v else undef
def QN:Option Obj->Ob
 |some (.cells c _ _)=> .ro (jl c)
 |_=> .dead
def XE(W:World):Nat->M
 |0=>{st:=.e,n:=0,low:=0}
 |k+1=>(XE W k).push (QN W.heap[k]?)
theorem KQ(W:World):∀k,(XE W k).n=k
 |0=>rfl
 |k+1=>by show(XE W k).n+1=k+1;rw[KQ W k]
theorem KR(W:World):∀k b,b<k->(XE W k).get b=QN W.heap[b]?
 |k+1,b,h=>by show((XE W k).push (QN W.heap[k]?)).get b=_;by_cases F:b=k;subst F;have:=M.aU (m:=XE W b) (o:=QN W.heap[b]?);rw[KQ]at this;grind;rw[M.cH (by rw[KQ];omega)];exact KR W k b Z
def fF(W:World):M:=(XE W W.heap.size).wl W.heap.size
def D9(W:World):(fF W).n=W.heap.size:=KQ W _
def sj(W:World){b:Nat}(h:b<W.heap.size):(fF W).get b=QN W.heap[b]?:=KR W _ b h
def Ai(W:World):Sg:=λb=>if b < W.heap.size then some ⟨b,none⟩else none
def nn{W:World}{i:BI}(h:Ai W b=some i):b<W.heap.size/\i=⟨b,none⟩:=by unfold Ai at h;grind
def adM{W:World}(hW:9<W.heap.size):eW Tryz.prog (Ai W) (fF W) W:=by refine⟨λb i F=>?_,λb i F=>?_,λb i F=>?_,λb b' i i' F d0 _ _ he=>?_,λg hg=>?_⟩;rw[D9];exact(nn F).1;obtain⟨h,rfl⟩:=nn F;rw[sj W h];(cases ho:W.heap[b]? with|none=>trivial|some o=>cases o with|cells c e fz=>refine⟨rfl,c,e,fz,ho,by simp[jl],λj u u' hu g0 h1=>?_⟩;have b0:(jl c)[j]?=some (bif bL u' then u' else undef):=(by unfold jl;grind);rw[hu]at b0;simp only[DS]at b0;subst b0;(cases hf:bL u' with|true=>exact .flat _ hf|false=>rw[hf]at h1;cases h1)|_=>trivial);obtain⟨h,rfl⟩:=nn F;exact h;obtain⟨_,rfl⟩:=nn F;obtain⟨_,rfl⟩:=nn d0;exact he;have e0:Tryz.prog.globals.size=10:=bv;rw[e0]at hg;unfold Ai;grind
theorem tx{α:Type}{Q:Nat->α->Prop}:∀n,(∀i,i<n->∃y,Q i y)->∃l:List α,l.length=n/\∀i y,l[i]?=some y->Q i y
 |0,_=>⟨[],rfl,J⟩
 |n+1,h=>by obtain⟨l,F,hq⟩:=tx n λi hi=>h i Z;obtain⟨y,hy⟩:=h n Z;refine⟨l++ [y],J,λi z hz=>?_⟩;grind
section
variable {H:Type} {enc:TypeId×O->H} {W:World} {sp:Nat->Bool} {held:Bool} {base:Nat}
set_option maxRecDepth 10000 in
theorem Fj{α:Type}[aL α]{Py:α->Prop}{v:O}{fuel:Nat}{x:DataW H×List MemPlace}(ht:Tryz.prog.underlying t=some (.slice e))(l0:Tryz.prog.cellsOf e=aL.sz α)
  (n0:∀fuel cs x,DataW.trod enc Tryz.prog W 0 sp held fuel e cs=some x->∃y:α,Py y/\(∀m,aL.rep m y cs)/\∀u∈cs,bL u=true)
  (g0:Cell.okWide Tryz.prog W .any base t v) (h:DataW.trod enc Tryz.prog W 0 sp held fuel t [v]=some x):
  bw (Ai W) v v/\∃l:List α,LL (fF W) l v/\l.length < 9223372036854775808/\∀y∈l,Py y:=by rcases DataW.trod_slice ht h with⟨hv,_⟩ |⟨a,len,cap,elems,rest,n,rfl,hv,rfl,hb,hl,hm,hlen,h0,_,_⟩;simp only[List.cons.injEq,and_true]at hv;subst hv;exact⟨.flat _ rfl,[],.inl ⟨rfl,rfl⟩,co,λy hy=>by cases hy⟩;simp only[List.cons.injEq,and_true]at hv;subst hv;simp only[Cell.okWide,Cell.ok,ht]at g0;have⟨_,_,_,b0,row,cells,F,_⟩:=g0;have⟨dL,off,A0⟩:=a;dsimp only at b0 F hb;subst b0;unfold World.shape? at F;cases ho:W.heap[dL]? with|none=>rw[ho]at F;cases F|some o=>rw[ho]at F;cases o with|cells c e' fz=>have i0:dL < W.heap.size:=(N3.1 ho).1;have o0:Ai W dL=some ⟨dL,none⟩:=(by unfold Ai;rw[UG i0]);refine⟨.slice ⟨dL,off,none⟩ ⟨dL,none⟩ len cap o0 rfl rfl,?_⟩;have y0:=aL.pos (α:=α);obtain⟨l,p0,hq⟩:=tx (Q:=λi (y:α)=>Py y/\off+i*aL.sz α+aL.sz α<=(jl c).length/\aL.rep (fF W) y (((jl c).drop (off+i*aL.sz α)).take (aL.sz α))) len λi hi=>(by have he:=h0 i hi;rw[wo]at he;have⟨e0,q0,r0⟩:=W9.1 he;obtain⟨y,hy,j0,s0⟩:=n0 _ _ _ r0;obtain⟨_,u0,k0⟩:=World.cells?_some q0;rw[l0]at u0 k0;have d0:∀j,j < aL.sz α->c[off+i*aL.sz α+j]?=e0[j]?:=λj hj=>(by have:=k0 j hj;rw[D.eQ,D.eQ]at this;rw[<-this];simp only[World.cell?,ho];rfl);have hbound:off+i*aL.sz α+aL.sz α<=(jl c).length:=(by have:=d0 (aL.sz α-1) Z;rw[wo]at this;have:=(N3.1 this).1;unfold jl;rw[Xh,MT];omega);refine⟨y,hy,hbound,?_⟩;have:((jl c).drop (off+i*aL.sz α)).take (aL.sz α)=e0:=(by apply Xx;intro j;by_cases hj:j < aL.sz α;rw[XM hj,Sa];unfold jl;rw[Uo,OZ,d0 j hj];(cases hu:e0[j]? with|none=>rfl|some u=>rw[F4,s0 u (QP hu)];rfl);rw[JQ (by rw[ZO];omega),JQ Z]);rw[this];exact j0 _);refine⟨l,.inr ⟨dL,off,cap,jl c,by rw[p0],?_,λi y hi=>⟨(hq i y hi).2.1,(hq i y hi).2.2⟩⟩,?_,λy hy=>?_⟩;rw[sj W i0,ho];rfl;have:maxLen < 9223372036854775808:=(by unfold maxLen;decide);omega;have⟨i,hi⟩:=Px.1 hy;exact(hq i y hi).1|_=>cases F
def FO{t:TypeId}{n:Nat}{cs:ν}{fuel:Nat}{x:DataW H×List MemPlace}(ht:Tryz.prog.underlying t=some (.array n 3))(F:Tryz.prog.cellsOf t=n)
  (h:DataW.trod enc Tryz.prog W 0 sp held fuel t cs=some x):∃l:List Int,cs=l.map (.int .i64)/\l.length=n/\∀z∈l,nK z:=by obtain⟨xs,m,rfl,rfl,b0,i0,d0⟩:=DataW.trod_array ht h;rw[F]at b0;have h3:Tryz.prog.underlying 3=some (.int .i64):=bv;have e0:Tryz.prog.cellsOf 3=1:=bv;obtain⟨l,hl,hq⟩:=tx (Q:=λi (z:Int)=>cs[i]?=some (I z)/\nK z) n λi hi=>(by have:=d0 i hi;rw[e0,wo]at this;obtain⟨z,hz,_,g0⟩:=DataW.trod_int h3 this;refine⟨z,?_,?_⟩;have:=congrArg (λq:ν=>q[0]?) hz;grind;have h0:IntKind.i64.min= -9223372036854775808/\IntKind.i64.max=9223372036854775807:=⟨ce,ce⟩;simp only[Lit.wf,G4,Xo,h0]at g0;unfold nK;omega);refine⟨l,?_,hl,λz hz=>?_⟩;apply Xx;grind;have⟨i,hi⟩:=Px.1 hz;grind
end
end
section
open Go Go.D Go.ChangeShapes Go.Proofs.Tryz
def WW:Tryz.prog.underlying 4=some .bool:=bv
def Ia{X:aF}(hX:cP Tryz.prog X){W:World}(hW:9<W.heap.size){f:Nat}{args:ν}{args':Array O}{m':M}{b:Bool}(h:C X (.func f) args (fF W) (fF W).n (.bool b) m')(hl:bK (Ai W) args args'.toList):
  Calls Tryz.prog f args' W λe W'=>e=.returned (.bool b)/\Go.RowKit.Below W.heap.size W W':=by have⟨hn,_,n0,hc⟩:=h;have h1:=hc n0 (R8 _) (fF W).n (R8 _);have b0:eW Tryz.prog (Ai W) ((fF W).wl (fF W).n) W:=(by have:=adM hW;exact⟨this.vd,this.obj,this.lt,this.inj,this.mI⟩);refine(ye ai.ok hX h1 b0 hl).mono λe w' he=>?_;obtain⟨v',e0,rfl,hv,F⟩:=he;have d0:=hv.bJ rfl;subst d0;refine⟨rfl,F.os,F.tape,F.output,F.hle,λB hB=>F.heap B hB λb i hb hi=>?_⟩;have:=(nn hb).1;show b<min (fF W).n (fF W).n;rw[D9];omega
end
section
open Go.ChangeShapes Go.WideShapes Go.ChangeAt Go.RowKit
def zd(os:Os):World:=World.laidAll Tryz.prog os Rows.worksSuitsRow.laid
def Ri{os:Os}:(World.holding Tryz.prog os ⟨#[], #[],[]⟩).layFits Tryz.prog Rows.worksSuitsRow.laid []=true:=bv
def Jw{os:Os}:(World.holding Tryz.prog os ⟨#[], #[],[]⟩).layIfaces Tryz.prog Rows.worksSuitsRow.laid (World.laidAll Tryz.prog os Rows.worksSuitsRow.laid)=true:=bv
