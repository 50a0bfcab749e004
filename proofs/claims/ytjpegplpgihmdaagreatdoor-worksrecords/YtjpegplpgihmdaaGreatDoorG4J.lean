/- What the words of the formulas .. -/
import Derived.Test.YtjpegplpgihmdaaGreatDoorTabJ
import Derived.Test.YtjpegplpgihmdaaGreatDoorG2J
import Derived.OpenShut
import Derived.Test.YtjpegplpgihmdaaGreatDoorTie
import Derived.ProofKit
import Derived.Lay
import Derived.Deep.DeepWitnessRowRef
set_option linter.defProp false
noncomputable section
open Go Go.D Go.Proofs.Tryz
namespace Go.Proofs.YtjpegplpgihmdaaGreatDoor
variable{m:M}{b o:Nat}{a:Addr}
def acb{l:ν}(h:l.length=1):∃F,l=[F]:=by match l,h with|[F],_=>exact⟨F,rfl⟩
def adG{l:ν}(h:l.length=2):∃F y1,l=[F,y1]:=by match l,h with|[F,y1],_=>exact⟨F,y1,rfl⟩
def Da{l:ν}(h:l.length=4):∃F y1 y2 y3,l=[F,y1,y2,y3]:=by match l,h with|[F,y1,y2,y3],_=>exact⟨F,y1,y2,y3,rfl⟩
def C9{l:ν}(h:l.length=5):∃F y1 y2 y3 y4,l=[F,y1,y2,y3,y4]:=by match l,h with|[F,y1,y2,y3,y4],_=>exact⟨F,y1,y2,y3,y4,rfl⟩
def C8{l:ν}(h:l.length=6):∃F y1 y2 y3 y4 y5,l=[F,y1,y2,y3,y4,y5]:=by match l,h with|[F,y1,y2,y3,y4,y5],_=>exact⟨F,y1,y2,y3,y4,y5,rfl⟩
def Wd:TE.ty.get 30=some ai.t30:=bv
def Wc:TE.ty.get 33=some ai.t33:=bv
def Wb:TE.ty.get 38=some ai.t38:=bv
def Wa:TE.ty.get 44=some ai.t44:=bv
def V9:TE.ty.get 46=some ai.t46:=bv
def V8:TE.ty.get 52=some ai.t52:=bv
def abv:TE.ty.get 69=some ai.t69:=bv
def V6:TE.ty.get 71=some ai.t71:=bv
def V5:TE.ty.get 73=some ai.t73:=bv
def V4:TE.ty.get 85=some ai.t85:=bv
def abx:TE.ty.get 87=some ai.t87:=bv
def V2:TE.ty.get 89=some ai.t89:=bv
def V1:TE.ty.get 95=some ai.t95:=bv
def S1:TE.ty.get 131=some ai.t131:=bv
def S0:TE.ty.get 223=some ai.t223:=bv
def ach:TE.ty.get 231=some ai.t231:=bv
def SY:TE.ty.get 276=some ai.t276:=bv
def SW:TE.ty.get 278=some ai.t278:=bv
def qL{P:Prop}(h:P:=by simp only[bz,Wd,Wc,Wb,Wa,V9,V8,abv,V6,V5,V4,abx,V2,V1,S1,S0,ach,SY,SW,ai.t30,ai.t33,ai.t38,ai.t44,ai.t46,ai.t52,ai.t69,ai.t71,ai.t73,ai.t85,ai.t87,ai.t89,ai.t95,ai.t131,ai.t223,ai.t231,ai.t276,ai.t278,fill,bd,Lf,S5,S6,H8,O6];(repeat (rename (cells _).length=_=>h;(first|obtain⟨_,e⟩:=acb h|obtain⟨_,_,e⟩:=adG h|obtain⟨_,_,_,_,e⟩:=Da h|obtain⟨_,_,_,_,_,e⟩:=C9 h|have⟨_,_,_,_,_,_,e⟩:=C8 h);simp only[e];clear h e));rfl):P:=h
def zv{x0:Φ}(F:(cells x0).length=2):bz TE 231 [(0,x0)]=some (.agg (cells x0).toArray):=qL
def zU{x0 x1 x2:Φ}(F:(cells x0).length=1)(h1:(cells x1).length=1)(h2:(cells x2).length=1):bz TE 276 [(0,x0),(1,x1),(2,x2)]=some (.agg (cells x0++(cells x1++(cells x2))).toArray):=qL
def zT{x0 x1 x2:Φ}(F:(cells x0).length=1)(h1:(cells x1).length=1)(h2:(cells x2).length=1):bz TE 278 [(0,x0),(1,x1),(2,x2)]=some (.agg (cells x0++(cells x1++(cells x2))).toArray):=qL
def Ej:bz TE 30 []=some (.agg (([U7]:ν)).toArray):=bv
def vn{x0:Φ}(F:(cells x0).length=1):bz TE 30 [(0,x0)]=some (.agg (cells x0).toArray):=qL
def jU:bz TE 33 []=some (.agg (([U7]:ν)++(([U7]:ν))).toArray):=bv
def CC{x0:Φ}(F:(cells x0).length=1):bz TE 33 [(0,x0)]=some (.agg (cells x0++(([U7]:ν))).toArray):=qL
def qJ{x0 x1:Φ}(F:(cells x0).length=1)(h1:(cells x1).length=1):bz TE 33 [(0,x0),(1,x1)]=some (.agg (cells x0++(cells x1)).toArray):=qL
def CB{x0:Φ}(F:(cells x0).length=1):bz TE 33 [(1,x0)]=some (.agg (([U7]:ν)++(cells x0)).toArray):=qL
def afc:bz TE 38 []=some (.agg (([U7,U7]:ν)++(([U7]:ν)++(([U7]:ν)++(([U7]:ν))))).toArray):=bv
def Jr{x0:Φ}(F:(cells x0).length=2):bz TE 38 [(0,x0)]=some (.agg (cells x0++(([U7]:ν)++(([U7]:ν)++(([U7]:ν))))).toArray):=qL
def CA{x0 x1 x2:Φ}(F:(cells x0).length=2)(h1:(cells x1).length=1)(h2:(cells x2).length=1):bz TE 38 [(0,x0),(2,x1),(3,x2)]=some (.agg (cells x0++(([U7]:ν)++(cells x1++(cells x2)))).toArray):=qL
def pU:bz TE 44 []=some (.agg (([.int .i64 0]:ν)++(([.int .i64 0]:ν)++(([.int .i64 0]:ν)++(([U7]:ν)++(([.int .i64 0]:ν)++(([.int .i64 0]:ν))))))).toArray):=bv
def abQ{x0 x1 x2 x3 x4 x5:Φ}(F:(cells x0).length=1)(h1:(cells x1).length=1)(h2:(cells x2).length=1)(h3:(cells x3).length=1)(h4:(cells x4).length=1)(h5:(cells x5).length=1):bz TE 44 [(0,x0),(1,x1),(2,x2),(3,x3),(4,x4),(5,x5)]=some (.agg (cells x0++(cells x1++(cells x2++(cells x3++(cells x4++(cells x5)))))).toArray):=qL
def vj{x0 x1 x2 x3 x4:Φ}(F:(cells x0).length=1)(h1:(cells x1).length=1)(h2:(cells x2).length=1)(h3:(cells x3).length=1)(h4:(cells x4).length=1):bz TE 44 [(0,x0),(1,x1),(2,x2),(4,x3),(5,x4)]=some (.agg (cells x0++(cells x1++(cells x2++(([U7]:ν)++(cells x3++(cells x4)))))).toArray):=qL
def Nj:bz TE 46 []=some (.agg (([.int .i64 0]:ν)++(([.int .i64 0,.int .i64 0,.int .i64 0,U7,.int .i64 0,.int .i64 0]:ν)++(([.int .i64 0]:ν)++(([.int .i64 0]:ν)++(([.int .i64 0]:ν)++(([.int .i64 0]:ν))))))).toArray):=bv
def vi{x0:Φ}(F:(cells x0).length=1):bz TE 46 [(0,x0)]=some (.agg (cells x0++(([Ω 0,Ω 0,Ω 0,U7,Ω 0,Ω 0]:ν)++(([Ω 0]:ν)++(([Ω 0]:ν)++(([Ω 0]:ν)++(([Ω 0]:ν))))))).toArray):=qL
def adu{x0 x1:Φ}(F:(cells x0).length=1)(h1:(cells x1).length=1):bz TE 52 [(0,x0),(1,x1)]=some (.agg (cells x0++(cells x1)).toArray):=qL
def Jq{x0:Φ}(F:(cells x0).length=6):bz TE 69 [(0,x0)]=some (.agg (cells x0++(([U7]:ν))).toArray):=qL
def Ni:bz TE 71 []=some (.agg (([.int .i64 0]:ν)++(([.int .i64 0]:ν)++(([.int .i64 0]:ν)++(([.int .i64 0]:ν)++(([IA]:ν)))))).toArray):=bv
def FI{x0 x1:Φ}(F:(cells x0).length=1)(h1:(cells x1).length=6):bz TE 73 [(0,x0),(1,x1)]=some (.agg (cells x0++(cells x1++(([Ω 0]:ν)++(([Ω 0]:ν)++(([Ω 0]:ν)++(([Ω 0,Ω 0,Ω 0,Ω 0,IA]:ν))))))).toArray):=qL
def FH{x0 x1:Φ}(F:(cells x0).length=1)(h1:(cells x1).length=1):bz TE 73 [(0,x0),(2,x1)]=some (.agg (cells x0++(([Ω 0,Ω 0,Ω 0,U7,Ω 0,Ω 0]:ν)++(cells x1++(([Ω 0]:ν)++(([Ω 0]:ν)++(([Ω 0,Ω 0,Ω 0,Ω 0,IA]:ν))))))).toArray):=qL
def acd{x0 x1:Φ}(F:(cells x0).length=1)(h1:(cells x1).length=5):bz TE 73 [(0,x0),(5,x1)]=some (.agg (cells x0++(([Ω 0,Ω 0,Ω 0,U7,Ω 0,Ω 0]:ν)++(([Ω 0]:ν)++(([Ω 0]:ν)++(([Ω 0]:ν)++(cells x1)))))).toArray):=qL
def qI{x0 x1:Φ}(F:(cells x0).length=1)(h1:(cells x1).length=1):bz TE 85 [(0,x0),(1,x1)]=some (.agg (cells x0++(cells x1)).toArray):=qL
def Cz{x0 x1 x2:Φ}(F:(cells x0).length=1)(h1:(cells x1).length=1)(h2:(cells x2).length=1):bz TE 95 [(0,x0),(1,x1),(2,x2)]=some (.agg (cells x0++(cells x1++(cells x2))).toArray):=qL
def Cu{k:IntKind}{n:Int}:SJ TE m 203 3 (.int k n)=some (.int .i64 (IntKind.wrap .i64 n)):=bv
def Cs{k:IntKind}{n:Int}:SJ TE m 3 203 (.int k n)=some (.int .u64 (IntKind.wrap .u64 n)):=bv
def HC{t i k:Nat}(h:az TE t (Ψ b o) i=some (.pointer (some (Addr.add ⟨b,o,none⟩ k)))):az TE t (Ψ b o) i=some (Ψ b (o+k)):=by rw[h,bk rfl]
def jz:az TE 131 (Ψ b o) 2=some (Ψ b (o+2)):=HC bv
def jy:az TE 131 (Ψ b o) 3=some (Ψ b (o+3)):=HC bv
def jx:az TE 131 (Ψ b o) 4=some (Ψ b (o+4)):=HC bv
def re:az TE 223 (Ψ b o) 0=some (Ψ b (o+0)):=HC bv
def mE:az TE 223 (Ψ b o) 2=some (Ψ b (o+2)):=HC bv
def bV:az TE 231 (Ψ b o) 0=some (Ψ b (o+0)):=HC bv
def sx:az TE 25 (Ψ b o) 0=some (Ψ b (o+0)):=HC bv
def sw:az TE 25 (Ψ b o) 1=some (Ψ b (o+1)):=HC bv
def zR:az TE 276 (Ψ b o) 0=some (Ψ b (o+0)):=HC bv
def zQ:az TE 276 (Ψ b o) 1=some (Ψ b (o+1)):=HC bv
def ac1:az TE 276 (Ψ b o) 2=some (Ψ b (o+2)):=HC bv
def mD:az TE 278 (Ψ b o) 0=some (Ψ b (o+0)):=HC bv
def mC:az TE 278 (Ψ b o) 1=some (Ψ b (o+1)):=HC bv
def mB:az TE 278 (Ψ b o) 2=some (Ψ b (o+2)):=HC bv
def bh:az TE 30 (Ψ b o) 0=some (Ψ b (o+0)):=HC bv
def bO:az TE 33 (Ψ b o) 0=some (Ψ b (o+0)):=HC bv
def bJ:az TE 33 (Ψ b o) 1=some (Ψ b (o+1)):=HC bv
def dm:az TE 38 (Ψ b o) 0=some (Ψ b (o+0)):=HC bv
def dN:az TE 38 (Ψ b o) 1=some (Ψ b (o+2)):=HC bv
def eK:az TE 38 (Ψ b o) 2=some (Ψ b (o+3)):=HC bv
def fy:az TE 38 (Ψ b o) 3=some (Ψ b (o+4)):=HC bv
def aW:az TE 44 (Ψ b o) 0=some (Ψ b (o+0)):=HC bv
def dk:az TE 44 (Ψ b o) 1=some (Ψ b (o+1)):=HC bv
def cz:az TE 44 (Ψ b o) 2=some (Ψ b (o+2)):=HC bv
def bA:az TE 44 (Ψ b o) 3=some (Ψ b (o+3)):=HC bv
def dj:az TE 44 (Ψ b o) 4=some (Ψ b (o+4)):=HC bv
def di:az TE 44 (Ψ b o) 5=some (Ψ b (o+5)):=HC bv
def dC:az TE 46 (Ψ b o) 0=some (Ψ b (o+0)):=HC bv
def ed:az TE 46 (Ψ b o) 1=some (Ψ b (o+1)):=HC bv
def cU:az TE 46 (Ψ b o) 2=some (Ψ b (o+7)):=HC bv
def cT:az TE 46 (Ψ b o) 3=some (Ψ b (o+8)):=HC bv
def dh:az TE 46 (Ψ b o) 4=some (Ψ b (o+9)):=HC bv
def cS:az TE 46 (Ψ b o) 5=some (Ψ b (o+10)):=HC bv
def iZ:az TE 52 (Ψ b o) 0=some (Ψ b (o+0)):=HC bv
def kF:az TE 52 (Ψ b o) 1=some (Ψ b (o+1)):=HC bv
def cf:az TE 69 (Ψ b o) 0=some (Ψ b (o+0)):=HC bv
def dM:az TE 69 (Ψ b o) 1=some (Ψ b (o+6)):=HC bv
def bT:az TE 71 (Ψ b o) 0=some (Ψ b (o+0)):=HC bv
def cZ:az TE 71 (Ψ b o) 1=some (Ψ b (o+1)):=HC bv
def eJ:az TE 71 (Ψ b o) 2=some (Ψ b (o+2)):=HC bv
def kE:az TE 71 (Ψ b o) 3=some (Ψ b (o+3)):=HC bv
def fx:az TE 71 (Ψ b o) 4=some (Ψ b (o+4)):=HC bv
def gQ:az TE 73 (Ψ b o) 0=some (Ψ b (o+0)):=HC bv
def cY:az TE 73 (Ψ b o) 1=some (Ψ b (o+1)):=HC bv
def cI:az TE 73 (Ψ b o) 2=some (Ψ b (o+7)):=HC bv
def gM:az TE 73 (Ψ b o) 3=some (Ψ b (o+8)):=HC bv
def gL:az TE 73 (Ψ b o) 4=some (Ψ b (o+9)):=HC bv
def eI:az TE 73 (Ψ b o) 5=some (Ψ b (o+10)):=HC bv
def cR:az TE 85 (Ψ b o) 0=some (Ψ b (o+0)):=HC bv
def dZ:az TE 85 (Ψ b o) 1=some (Ψ b (o+1)):=HC bv
def Ce:az TE 89 (Ψ b o) 0=some (Ψ b (o+0)):=HC bv
def aac:az TE 89 (Ψ b o) 1=some (Ψ b (o+1)):=HC bv
def eH:az TE 95 (Ψ b o) 0=some (Ψ b (o+0)):=HC bv
def fw:az TE 95 (Ψ b o) 1=some (Ψ b (o+1)):=HC bv
def su:az TE 95 (Ψ b o) 2=some (Ψ b (o+2)):=HC bv
def aeY{a:Option Addr}{n c:Nat}:aR TE m .len [28] [.slice a n c]=some (.int .i64 n,m):=bv
def BL:aC TE m 131 (.pointer (some a))=(D.loadCells m a 5).map (λcs=> .agg cs.toArray):=bv
def Qm:aC TE m 140 (.pointer (some a))=D.cellAt m a:=bv
def Ql:aC TE m 141 (.pointer (some a))=D.cellAt m a:=bv
def G5:aC TE m 217 (.pointer (some a))=D.cellAt m a:=bv
def BK:aC TE m 219 (.pointer (some a))=D.cellAt m a:=bv
def Ko:aC TE m 22 (.pointer (some a))=D.cellAt m a:=bv
def abX:aC TE m 223 (.pointer (some a))=(D.loadCells m a 5).map (λcs=> .agg cs.toArray):=bv
def aeU:aC TE m 23 (.pointer (some a))=D.cellAt m a:=bv
def Km:aC TE m 25 (.pointer (some a))=(D.loadCells m a 3).map (λcs=> .agg cs.toArray):=bv
def acX:aC TE m 26 (.pointer (some a))=(D.loadCells m a 6).map (λcs=> .agg cs.toArray):=bv
def Qj:aC TE m 278 (.pointer (some a))=(D.loadCells m a 3).map (λcs=> .agg cs.toArray):=bv
def dU:aC TE m 28 (.pointer (some a))=D.cellAt m a:=bv
def bS:aC TE m 3 (.pointer (some a))=D.cellAt m a:=bv
def cV:aC TE m 30 (.pointer (some a))=(D.loadCells m a 1).map (λcs=> .agg cs.toArray):=bv
def kn:aC TE m 31 (.pointer (some a))=D.cellAt m a:=bv
def oC:aC TE m 33 (.pointer (some a))=(D.loadCells m a 2).map (λcs=> .agg cs.toArray):=bv
def TZ:aC TE m 34 (.pointer (some a))=D.cellAt m a:=bv
def E9:aC TE m 35 (.pointer (some a))=D.cellAt m a:=bv
def ad8:aC TE m 36 (.pointer (some a))=D.cellAt m a:=bv
def TX:aC TE m 38 (.pointer (some a))=(D.loadCells m a 5).map (λcs=> .agg cs.toArray):=bv
def rY:aC TE m 4 (.pointer (some a))=D.cellAt m a:=bv
def qy:aC TE m 42 (.pointer (some a))=D.cellAt m a:=bv
def qw:aC TE m 44 (.pointer (some a))=(D.loadCells m a 6).map (λcs=> .agg cs.toArray):=bv
def adb:aC TE m 46 (.pointer (some a))=(D.loadCells m a 11).map (λcs=> .agg cs.toArray):=bv
def TT:aC TE m 48 (.pointer (some a))=D.cellAt m a:=bv
def E8:aC TE m 52 (.pointer (some a))=(D.loadCells m a 2).map (λcs=> .agg cs.toArray):=bv
def Kl:aC TE m 69 (.pointer (some a))=(D.loadCells m a 7).map (λcs=> .agg cs.toArray):=bv
def E7:aC TE m 71 (.pointer (some a))=(D.loadCells m a 5).map (λcs=> .agg cs.toArray):=bv
def E6:aC TE m 73 (.pointer (some a))=(D.loadCells m a 15).map (λcs=> .agg cs.toArray):=bv
def qu:aC TE m 85 (.pointer (some a))=(D.loadCells m a 2).map (λcs=> .agg cs.toArray):=bv
def wD:aC TE m 87 (.pointer (some a))=(D.loadCells m a 4).map (λcs=> .agg cs.toArray):=bv
def Kk:aC TE m 89 (.pointer (some a))=(D.loadCells m a 8).map (λcs=> .agg cs.toArray):=bv
def Kj:aC TE m 95 (.pointer (some a))=(D.loadCells m a 3).map (λcs=> .agg cs.toArray):=bv
def iG:TE.ty.get 131=some ai.t131:=bv
def Wj:TE.ty.get 141=some ai.t141:=bv
def adr:TE.ty.get 149=some ai.t149:=bv
def Vo:TE.ty.get 22=some ai.t22:=bv
def kX:TE.ty.get 223=some ai.t223:=bv
def AP:TE.ty.get 278=some ai.t278:=bv
def Gj:TE.ty.get 28=some ai.t28:=bv
def zG:TE.ty.get 3=some ai.t3:=bv
def il:TE.ty.get 30=some ai.t30:=bv
def Dx:TE.ty.get 31=some ai.t31:=bv
def eE:TE.ty.get 33=some ai.t33:=bv
def JM:TE.ty.get 34=some ai.t34:=bv
def OJ:TE.ty.get 35=some ai.t35:=bv
def Vn:TE.ty.get 36=some ai.t36:=bv
def oj:TE.ty.get 38=some ai.t38:=bv
def Gi:TE.ty.get 4=some ai.t4:=bv
def ua:TE.ty.get 42=some ai.t42:=bv
def dV:TE.ty.get 44=some ai.t44:=bv
def vE:TE.ty.get 46=some ai.t46:=bv
def Gh:TE.ty.get 52=some ai.t52:=bv
def Gg:TE.ty.get 69=some ai.t69:=bv
def qV:TE.ty.get 71=some ai.t71:=bv
def fQ:TE.ty.get 85=some ai.t85:=bv
def yW:TE.ty.get 87=some ai.t87:=bv
def vD:TE.ty.get 89=some ai.t89:=bv
def JL:TE.ty.get 95=some ai.t95:=bv
def MZ{f:Nat}{c:Func}(h:Tryz.prog.funcs[f]?=some c)(g:(TE.fn.get f).isSome:=by kernel_rfl):TE.fn.get f=some c:=by cases e:TE.fn.get f with| none=>rw[e]at g;cases g| some d=>have q:=ai.ok.fn f d e;rw[h]at q;cases q;rfl
end Go.Proofs.YtjpegplpgihmdaaGreatDoor
namespace Go.D
open Go
variable{m m':M}{b:Option Addr}
structure Nf(P Q:Prop):Prop where
 e:P=Q
def nfI{P Q:Prop}(h:Nf P Q):Nf P Q:=h
variable{W:Words}
def nfM{f F:M->Prop}(h:m=m')(h2:∀v,Nf (f v) (F v)):Nf (W.od m f) (W.od m' F):=⟨by rw[h,funext λv=>(h2 v).e]⟩
def nfS{α:Type}{a F:Option α}{f f':α->Prop}(h:a=F)(h2:∀v,Nf (f v) (f' v)):Nf (W.aS a f) (W.aS F f'):=⟨by rw[h,funext λv=>(h2 v).e]⟩
def nf2{α β:Type}{a F:Option (α×β)}{f f':α->β->Prop}(h:a=F)(h2:∀v w,Nf (f v w) (f' v w)):Nf (W.dn a f) (W.dn F f'):=⟨by rw[h,funext λv=>funext λw=>(h2 v w).e]⟩
def nfC{g F:Fn}{l l':ν}{f f':Φ->M->Nat->Prop}(h0:g=F)(h1:l=l')(h:m=m')(h2:∀a b c,Nf (f a b c) (f' a b c)):Nf (W.lM g l m f) (W.lM F l' m' f'):=⟨by rw[h0,h1,h,funext λv=>funext λw=>funext λz=>(h2 v w z).e]⟩
def nfV{v v':Φ}{P Q F Q':Prop}(h:v=v')(h1:Nf P F)(h2:Nf Q Q'):Nf (iR v P Q) (iR v' F Q'):=⟨by rw[h,h1.e,h2.e]⟩
def nfU{v v':ν}{f F:Φ->ν->Prop}(h:v=v')(h2:∀a b,Nf (f a b) (F a b)):Nf (W.un v f) (W.un v' F):=⟨by rw[h,funext λv=>funext λw=>(h2 v w).e]⟩
def nfJ{G F:(ν->M->Nat->Prop)->Prop}{k k':ν->M->Nat->Prop}(h1:∀R,Nf (G R) (F R))(h2:∀a b c,Nf (k a b c) (k' a b c)):Nf (W.jn G k) (W.jn F k'):=⟨by rw[funext λR=>(h1 R).e,funext λv=>funext λw=>funext λz=>(h2 v w z).e]⟩
def nfL{F F':(ν->M->Nat->Prop)->ν->M->Nat->Prop}{vs b0:ν}{lo d0:Nat}(h1:∀P a b c,Nf (F P a b c) (F' P a b c))(h2:vs=b0)(h3:m=m')(h4:lo=d0):Nf (W.Lp F vs m lo) (W.Lp F' b0 m' d0):=⟨by rw[h2,h3,h4,funext λP=>funext λv=>funext λw=>funext λz=>(h1 P v w z).e]⟩
def nf0{α:Type}{a F:Option α}{f f':α->Prop}(h:a=F)(h2:∀v,Nf (f v) (f' v)):Nf (aS a f) (aS F f'):=⟨by rw[h,funext λv=>(h2 v).e]⟩
def nfF{v v':Φ}{P F:Fn->Array Φ->Array Φ->Prop}(h:v=v')(h2:∀a b c,Nf (P a b c) (F a b c)):Nf (rn v P) (rn v' F):=⟨by rw[h,funext λv=>funext λw=>funext λz=>(h2 v w z).e]⟩
def nfA{P Q F Q':Prop}(h:P=F)(h2:Nf Q Q'):Nf (P/\Q) (F/\Q'):=⟨by rw[h,h2.e]⟩
def nfR{R:ν->M->Nat->Prop}{a a':ν}{lo F:Nat}(h1:a=a')(h2:m=m')(h3:lo=F):Nf (R a m lo) (R a' m' F):=⟨by rw[h1,h2,h3]⟩
def nfN:Nf False False:=⟨rfl⟩
theorem nfa{l:ν}:cells (.agg ⟨l⟩)=l:=rfl
theorem nfi{k:IntKind}{z:Int}:cells (.int k z)=[.int k z]:=rfl
theorem nfs{n c:Nat}:cells (.slice b n c)=[.slice b n c]:=rfl
theorem nfb{b:Bool}:cells (.bool b)=[.bool b]:=rfl
theorem nfp:cells (.pointer b)=[.pointer b]:=rfl
theorem nft{b:ByteArray}:cells (.string b)=[.string b]:=rfl
theorem nfm{b:Option Nat}:cells (.map b)=[.map b]:=rfl
theorem nfc{α:Type}{a b:α}{l r:List α}:(a::l)++(b::r)=a::(l++b::r):=rfl
theorem nfd{α:Type}{a:α}{l:List α}:(a::l)++([]:List α)=a::(l++ []):=rfl
theorem nff:cells .nilFunc=[.nilFunc]:=rfl
theorem nfn:cells .nilIface=[.nilIface]:=rfl
def cL{P Q:Prop}(h:Nf P Q:=by repeat' first|intro _|(apply nfI;(conv=>arg 1;whnf);first|apply nfS|apply nf2|apply nfV|apply nfC|apply nfU|apply nfM|apply nfJ|apply nfL|apply nf0|apply nfF|apply nfA|exact nfN|apply nfR)|((try dsimp only[KV.val,oN,KT.get,KT.set,KT.del,sD,forget,cond,nfa,nfi,nfs,nfb,nfp,nft,nfm,nff,nfn,List.nil_append,nfd,nfc]);(try rfl);done)):P=Q:=h.e
end Go.D
namespace Go.Proofs.YtjpegplpgihmdaaGreatDoor
variable{R:ν->M->Nat->Prop}{X:aF}{T e t:TypeId}{a n:Int}{b i:Nat}{ts:List TypeId}{g:Option Nat}
section
set_option maxRecDepth 100000
set_option maxHeartbeats 0
variable{W:Words}{x0 x1 x2:Φ}{m:M}{R:ν->M->Nat->Prop}
def F133:=cL (P:=dB TE W f133 [x0,x1] m R)
def F134:=cL (P:=dB TE W f134 [x0] m R)
def F135:=cL (P:=dB TE W f135 [x0,x1,x2] m R)
def F90:=cL (P:=dB TE W f90 [x0] m R)
def F278:=cL (P:=dB TE W f278 [x0] m R)
def F305:=cL (P:=dB TE W f305 [x0,x1] m R)
def F83:=cL (P:=dB TE W f83 [x0,x1] m R)
def F128:=cL (P:=dB TE W f128 [x0] m R)
def F43:=cL (P:=dB TE W f43 [x0] m R)
end
section
abbrev IL(f:Nat):Bool:=(Nat.beq f 99999 ||Nat.beq f 99999 ||Nat.beq f 137 ||Nat.beq f 100 ||Nat.beq f 49 ||Nat.beq f 99999 ||Nat.beq f 306 ||Nat.beq f 99999 ||Nat.beq f 311 ||Nat.beq f 259 ||Nat.beq f 314 ||Nat.beq f 98 ||Nat.beq f 99999 ||Nat.beq f 99999 ||Nat.beq f 85 ||Nat.beq f 82 ||Nat.beq f 88 ||Nat.beq f 4)
structure cp(X:aF):Prop where
 no:∀f,IL f=false->F0 X f
abbrev C(X:aF):=Cl TE X
section
variable {X:aF} {f:Nat} {fn:Func} {args:ν} {m:M} {v:Φ} {β:Type} {mk:β->Φ} {Q:β->M->Prop} {R:Φ->M->Prop} {G:Prop}
def Cl.fl(F:cp X)(hf:TE.fn.get f=some fn)(h:dB TE (aG TE X) fn args m λvs m' lo=>aM vs=v/\m.n<=lo)(h0:IL f=false:=by exact rfl)(hl:Nat.ble args.length fn.ntmps:=by exact rfl)(hv:aZ v:=by exact rfl):C X (.func f) args m m.n v m:=Cl.flat (F.no f h0) hf hl hv h
def Cl.fG(F:cp X)(hf:TE.fn.get f=some fn)(h:fP TE (aG TE X) fn args m λvs m' lo=>aM vs=v/\m.n<=lo)(h0:IL f=false:=by exact rfl)(hl:Nat.ble args.length fn.ntmps:=by exact rfl)(hv:aZ v:=by exact rfl):C X (.func f) args m m.n v m:=Cl.wQ (F.no f h0) hf hl hv h
def Cl.ky(F:cp X)(hf:TE.fn.get f=some fn)(H:dB TE (aG TE X) fn args m λvs m' lo=>(aZ (aM vs)/\m.n<=lo/\m.n=m.n/\R (aM vs) m)\/((aZ (aM vs)=false\/lo<m.n)/\min m.n lo=m.n/\R (aM vs) m'))(k:∀v m',C X (.func f) args m m.n v m'->R v m'->G)(h0:IL f=false:=by exact rfl)(hl:Nat.ble args.length fn.ntmps:=by exact rfl):G:=by obtain⟨v,m',b,hc,rfl,h⟩:=Cl.gen (R:=λv m' b=>b=m.n/\R v m') (F.no f h0) hf hl H;exact k v m' hc h
def Cl.kyG(F:cp X)(hf:TE.fn.get f=some fn)(H:fP TE (aG TE X) fn args m λvs m' lo=>(aZ (aM vs)/\m.n<=lo/\m.n=m.n/\R (aM vs) m)\/((aZ (aM vs)=false\/lo<m.n)/\min m.n lo=m.n/\R (aM vs) m'))(k:∀v m',C X (.func f) args m m.n v m'->R v m'->G)(h0:IL f=false:=by exact rfl)(hl:Nat.ble args.length fn.ntmps:=by exact rfl):G:=by obtain⟨v,m',b,hc,rfl,h⟩:=Cl.Hj (R:=λv m' b=>b=m.n/\R v m') (F.no f h0) hf hl H;exact k v m' hc h
def Cl.kI(F:cp X)(hf:TE.fn.get f=some fn)(H:dB TE (aG TE X) fn args m λvs m' lo=>(aZ (aM vs)/\m.n<=lo/\m.n=m.n/\R (aM vs) m)\/((aZ (aM vs)=false\/lo<m.n)/\min m.n lo=m.n/\R (aM vs) m'))(h0:IL f=false:=by exact rfl)(hl:Nat.ble args.length fn.ntmps:=by exact rfl):∃v m',C X (.func f) args m m.n v m'/\R v m':=Cl.ky F hf H (λ_ _ hc h=>⟨_,_,hc,h⟩) h0 hl
def Cl.H0(F:cp X)(hf:TE.fn.get f=some fn)(H:fP TE (aG TE X) fn args m λvs m' lo=>(aZ (aM vs)/\m.n<=lo/\m.n=m.n/\R (aM vs) m)\/((aZ (aM vs)=false\/lo<m.n)/\min m.n lo=m.n/\R (aM vs) m'))(h0:IL f=false:=by exact rfl)(hl:Nat.ble args.length fn.ntmps:=by exact rfl):∃v m',C X (.func f) args m m.n v m'/\R v m':=Cl.kyG F hf H (λ_ _ hc h=>⟨_,_,hc,h⟩) h0 hl
end
structure Pl where
 x:Int
 y:Int
deriving DecidableEq
def Pl.c(p:Pl):ν:=[.int .i64 p.x,.int .i64 p.y]
abbrev Pl.v(p:Pl):Φ:=.agg #[.int .i64 p.x,.int .i64 p.y]
instance:aQ Pl where
 ty:=85
 sz:=2
 agg:=true
 dQ:=[]
 rep _ p cs:=cs=p.c
 pos:=ce
 one:=be
 len:=by rintro _ _ _ rfl;rfl
 iH:=by rintro _ _ _ rfl;rfl
 aY:=be
def cN:qQ TE 42 85 Pl:=⟨ai.t42,ai.t85,bv,⟨_,rfl⟩,rfl,bv,rfl,rfl⟩
def yO:vu TE 42 Pl:=⟨ai.t42,ai.t85,bv,rfl,rfl,bv,ce,rfl⟩
instance:aQ Int where
 ty:=3
 sz:=1
 agg:=false
 dQ:=[]
 rep _ n cs:=cs=[.int .i64 n]
 pos:=ce
 one:=be
 len:=be
 iH:=by rintro _ _ _ rfl;rfl
 aY:=be
def mP:qQ TE 81 3 Int:=⟨ai.t81,ai.t3,bv,⟨_,rfl⟩,rfl,bv,rfl,rfl⟩
def U8:vu TE 81 Int:=⟨ai.t81,ai.t3,bv,rfl,rfl,bv,ce,rfl⟩
def idx{α:Type}(p:α->Bool):List α->Int
 |[]=> -1
 |x::l=>if p x then 0 else match idx p l with |.ofNat n=>n+1 |.negSucc _=> -1
theorem iF{α:Type}(p:α->Bool):∀l:List α,(idx p l= -1/\∀x∈l,p x=false)\/(∃i x,idx p l=(i:Nat)/\l[i]?=some x/\p x/\∀j y,j<i->l[j]?=some y->p y=false)
 |[]=> .inl ⟨rfl,λ_ h=>by cases h⟩
 |x::l=>by cases F:p x with|true=>exact .inr ⟨0,x,by simp[idx,F],rfl,F,λj y hj=>ac⟩|false=>rcases iF p l with⟨h1,h2⟩|⟨i,y,h1,h2,h3,h4⟩;refine .inl ⟨by simp only[idx,F,h1];rfl,λz hz=>?_⟩;grind;refine .inr ⟨i+1,y,by simp only[idx,F,h1];rfl,be,h3,λj z hj hz=>?_⟩;cases j with|zero=>simp at hz;subst hz;exact F|succ j=>exact h4 j z ac (by simpa using hz)
def Fj{α:Type}{p:α->Bool}{l:List α}{i:Nat}{x:α}(hx:l[i]?=some x)(hp:p x)(h:∀j y,j<i->l[j]?=some y->p y=false):idx p l=i:=by rcases iF p l with⟨F,h2⟩|⟨k,y,F,h2,h3,h4⟩;grind;grind
def wL{α:Type}{p:α->Bool}{l:List α}(h:∀x∈l,p x=false):idx p l= -1:=by rcases iF p l with⟨F,h2⟩|⟨k,y,F,h2,h3,h4⟩;exact F;grind
def lC{α:Type}{p:α->Bool}{l:List α}:decide (0<=idx p l)=l.any p:=by rcases iF p l with⟨F,h2⟩|⟨k,y,F,h2,h3,h4⟩;grind;grind
def KB{α:Type}{p:α->Bool}{l:List α}:decide (idx p l<0)= !(l.any p):=by rw[<-lC];grind
abbrev Fk(T t:TypeId)(W:Words)(x0 x1:Φ)(m:M)(R:ν->M->Nat->Prop):Prop:=
(W.dn (aR TE m .len [T] [x0]) λv1 _=>(W.Lp (λP2 d0 m4 F=>W.un d0 λv6 r7=>W.un r7 λv8 r9=>(W.aS (bE TE .lss 3 v8 v1) λv10=>(iR v10
(W.aS (aE TE T x0 v8) λv11=>(W.aS (aC TE m4 t v11) λv12=>(rn x1 λg13 f14 e0=>(W.lM g13 (f14.toList++([v12]++e0.toList)) m4 λg0 m17 b0=>(iR g0
(R [v8] m17 (min F b0))
(W.aS (bE TE .add 3 v8 (.int .i64 1)) λh0=>(P2 [v6,h0] m17 (min F b0))))))))
(R [.int .i64 (-1)] m4 F)))) [.int .i64 0,.int .i64 0] m (M.n m)))
def Uj{W:Words}{x0 x1:Φ}{m:M}:dB TE W f174 [x0,x1] m R=Fk 42 85 W x0 x1 m R:=bv
def tQ{W:Words}{x0 x1:Φ}{m:M}:dB TE W f78 [x0,x1] m R=Fk 28 44 W x0 x1 m R:=bv
def Fh{α:Type}[aQ α](hT:qQ TE T t α){m:M}{l:List α}{v:Φ}{g:Fn}{fi ca:Array Φ}{R:ν->M->Nat->Prop}(J:Nat->M->Nat->Prop)(d0:Nat->M->Nat->Prop)(p:Nat->Bool)(hb:l.length<4611686018427387904)
  (hl:∀i m lo,J i m lo->vt m l v)
  (hs:∀i x m1 F,l[i]?=some x->J i m1 F->∀cs,aQ.rep m1 x cs->∃b m2,C X g (fi.toList++([aQ.val α cs]++ca.toList)) m1 b (.bool (p i)) m2/\(p i->d0 i m2 (min F b))/\(p i=false->J (i+1) m2 (min F b)))
  (h0:J 0 m m.n) (e0:∀i m2 iT,i<l.length->p i->d0 i m2 iT->R [Ω i] m2 iT) (g0:∀m2 iT,J l.length m2 iT->R [Ω (-1)] m2 iT):
  Fk T t (aG TE X) v (.func g fi ca) m R:=by dsimp only[Fk,aG];rw[(hl 0 m m.n h0).len hT,ak];refine Lp.intro (γ:=Nat) (λi=>l.length-i) (λi vs m lo=>∃w,vs=[w,Ω i]/\i<=l.length/\J i m lo) 0 ⟨_,rfl,PS _,h0⟩ ?_;rintro i vs m1 F ⟨w,rfl,hi,hJ⟩;simp only[av,aK,ae,ag];refine af (λh=>?_) (λh=>?_);have b0:i<l.length:=be;have hx:l[i]?=some l[i]:=Iy b0;have⟨a,cs,e1,e2,hr⟩:=(hl i m1 F hJ).index hT (k:=.i64) hx;rw[e1,ae,e2,ae,ck];obtain⟨b,m2,hc,i0,j0⟩:=hs i _ m1 F hx hJ cs hr;apply aw hc;rw[ag];refine af (λhp=>?_) (λhp=>?_);exact e0 i _ _ b0 hp (i0 hp);simp only[aL,ae];refine⟨i+1,ac,w,?_,b0,j0 hp⟩;rw[wrap64];rfl;have k0:i=l.length:=(by have:¬((i:Int)< (l.length:Int)):=be;omega);subst k0;exact g0 _ _ hJ
def atG{X:aF}{T t:TypeId}{α:Type}[aQ α](hT:qQ TE T t α){f:Nat}{fn:Func}(hX:F0 X f)(hf:TE.fn.get f=some fn)(hn:Nat.ble 2 fn.ntmps)
  (hF:∀{W:Words} {x0 x1:Φ} {m:M} {R:ν->M->Nat->Prop},dB TE W fn [x0,x1] m R=Fk T t W x0 x1 m R)
  {m:M} {l:List α} {v:Φ} {g:Fn} {fi ca:Array Φ} (p:α->Bool) (hb:l.length<4611686018427387904) (hl:vt m l v)
  (hs:∀x∈l,∀cs,aQ.rep m x cs->C X g (fi.toList++([aQ.val α cs]++ca.toList)) m m.n (.bool (p x)) m):
  C X (.func f) [v,.func g fi ca] m m.n (Ω (idx p l)) m:=by
 refine Cl.flat hX hf hn rfl ?_;rw[hF];refine Fh hT (l:=l) (λi m1 lo=>m1=m/\lo=m.n/\∀j x,j<i->l[j]?=some x->p x=false) (λi m1 lo=>m1=m/\lo=m.n/\(∀j x,j<i->l[j]?=some x->p x=false)) (λi=>match l[i]? with|some x=>p x|none=>false) hb ?_ ?_ ⟨rfl,rfl,λj x hj=>ac⟩ ?_ ?_;·rintro i m1 lo ⟨rfl,_,_⟩;exact hl
 ·rintro i x m1 lo F ⟨rfl,rfl,hJ⟩ cs hr;rw[F];refine⟨_,_,hs x (Vb F) cs hr,λ_=>⟨rfl,U3 _,hJ⟩,λhp=>⟨rfl,U3 _,λj y hj hy=>?_⟩⟩;by_cases e:j=i;·subst e;rw[F]at hy;cases hy;exact hp
  exact hJ j y ac hy
 ·rintro i m2 iT b0 hp ⟨rfl,rfl,hJ⟩;have F:l[i]?=some l[i]:=Iy b0;rw[F]at hp;exact⟨by rw[aM,Fj F hp hJ],ID _⟩
 rintro m2 iT ⟨rfl,rfl,hJ⟩;exact⟨by rw[aM,wL λx F=>by have⟨j,hj⟩:=Db.1 F;exact hJ j x (Zv.1 hj).1 hj],ID _⟩
def fY{α:Type}[aQ α](F:qQ TE T t α){f:Nat}{fn:Func}(hX:F0 X f)(hf:TE.fn.get f=some fn)(hn:Nat.ble 2 fn.ntmps)
  (hF:∀{W:Words} {x0 x1:Φ} {m:M} {R:ν->M->Nat->Prop},dB TE W fn [x0,x1] m R=Fk T t W x0 x1 m R)
  {m:M} {l:List α} {v:Φ} {g:Fn} {fi ca:Array Φ} (p:α->Bool) (hb:l.length<4611686018427387904) (hl:Sl m l v)
  (hs:∀x∈l,∀cs,aQ.rep m x cs->C X g (fi.toList++([aQ.val α cs]++ca.toList)) m m.n (.bool (p x)) m):
  C X (.func f) [v,.func g fi ca] m m.n (Ω (idx p l)) m:=atG F hX hf hn hF p hb (.inl hl) hs
def I3(F:cp X){m:M}{l:List Pl}{v:Φ}{g:Fn}{fi ca:Array Φ}(p:Pl->Bool)(hb:l.length<4611686018427387904)(hl:Sl m l v)
  (hs:∀x∈l,C X g (fi.toList++([x.v]++ca.toList)) m m.n (.bool (p x)) m):C X (.func 174) [v,.func g fi ca] m m.n (Ω (idx p l)) m:=
 fY cN (F.no _ rfl) (MZ func174) rfl Uj p hb hl λx hx cs hr=>by rw[show cs=x.c from hr];exact hs x hx
def uA(F:cp X){m:M}{l:List Pl}{v:Φ}{g:Fn}{fi ca:Array Φ}(p:Pl->Bool)(hb:l.length<4611686018427387904)(hl:Sl m l v)
  (hs:∀x∈l,C X g (fi.toList++([x.v]++ca.toList)) m m.n (.bool (p x)) m):C X (.func 133) [v,.func g fi ca] m m.n (.bool (l.any p)) m:=by apply Cl.fl F (MZ func133);rw[show dB TE (aG TE X) f133 _ m _=_ from F133];dsimp only[aG];apply aw (I3 F p hb hl hs);simp only[cW,ae,lC,aM];exact⟨trivial,ac⟩
end
variable{p:Pl}
variable{X:aF}{m:M}
def aX{G:(ν->M->Nat->Prop)->Prop}{k:ν->M->Nat->Prop}(Q:ν->M->Nat->Prop)(F:∀R:ν->M->Nat->Prop,(∀vs m lo,Q vs m lo->R vs m lo)->G R)(h2:∀vs m lo,Q vs m lo->k vs m lo):jn G k:=F k h2
def tM{k:IntKind}{b:Int}:aR TE m .min ts [.int k a,.int k b]=some (.int k (min a b),m):=by show some (Value.int k (if b<a then b else a),m)=_;grind
def Ak{k:IntKind}{b:Int}:aR TE m .max ts [.int k a,.int k b]=some (.int k (max a b),m):=by show some (Value.int k (if b >a then b else a),m)=_;grind
def bZ(h:m.get b=.cells p.c e g):aC TE m 85 (Ψ b 0)=some p.v:=by rw[qu,aI h (by simp[Pl.c])];rfl
def dW(a b c:Pl):Int:=(b.x-a.x)*(c.y-a.y)-(b.y-a.y)*(c.x-a.x)
def Vm(x:Int):Int:=IntKind.i64.wrap x
def JN(a b c:Pl):Int:=Vm (Vm (Vm (b.x-a.x)*Vm (c.y-a.y))-Vm (Vm (b.y-a.y)*Vm (c.x-a.x)))
def abC(hX:cp X)(a b c:Pl):C X (.func 135) [a.v,b.v,c.v] m m.n (Ω (JN a b c)) m:=by apply Cl.fl hX (MZ func135);rw[F135];dsimp only[aG];refine ah λm1 h0 d0 i0=>?_;refine ah λm2 j0 e0 g0=>?_;refine ah λm3 k0 F b0=>?_;have g1:=(b0 m.n ac).trans ((g0 m.n ac).trans d0);have g2:=(b0 m1.n ac).trans e0;simp only[bd]at g1 g2 F;simp only[ae,ak,ck,ag,bM,aT,cK,aK,cW,cx,aJ,bY,bC,ptrTo,cG,lq,Zp,Nat.reduceAdd,Lf,S5,MP,Hn,Dh,T9,O6,bd,nw,lH,jS,nq,nu,lG,cR,dZ,bS,aH g1,aH g2,aH F,eY,kJ];exact⟨rfl,ID _⟩
def Pl.sm(N:Int)(p:Pl):Prop:= -N<=p.x/\p.x<=N/\ -N<=p.y/\p.y<=N
def DR{b N:Int}(ha: -N<=a)(F:a<=N)(hb: -N<=b)(b0:b<=N): -(N*N)<=a*b/\a*b<=N*N:=by have h0:0<=N:=ac;have h1:0<=(N-a)*(N+b):=Lu ac ac;have h2:0<=(N+a)*(N-b):=Lu ac ac;have h3:0<=(N-a)*(N-b):=Lu ac ac;have h4:0<=(N+a)*(N+b):=Lu ac ac;grind
def Gk{a b c:Pl}(F:a.sm 1000000)(hb:b.sm 1000000)(hc:c.sm 1000000):JN a b c=dW a b c:=by have⟨a1,a2,a3,a4⟩:=F;have⟨b1,b2,b3,b4⟩:=hb;have⟨c1,c2,c3,c4⟩:=hc;have p:=DR (a:=b.x-a.x) (b:=c.y-a.y) (N:=2000000) ac ac ac ac;have q:=DR (a:=b.y-a.y) (b:=c.x-a.x) (N:=2000000) ac ac ac ac;unfold JN dW Vm;rw[wrap64 (x:=b.x-a.x) ac ac,wrap64 (x:=c.y-a.y) ac ac,wrap64 (x:=b.y-a.y) ac ac,wrap64 (x:=c.x-a.x) ac ac];rw[wrap64 (x:=(b.x-a.x)*(c.y-a.y)) ac ac,wrap64 (x:=(b.y-a.y)*(c.x-a.x)) ac ac,wrap64]
def Pl.off(p:Pl):Bool:=decide (min p.x p.y < 0) ||decide (40 < max p.x p.y)
def Pl.on(h:p.off=false):0<=p.x/\p.x<=40/\0<=p.y/\p.y<=40:=by simp only[Pl.off,Mp,QG]at h;omega
def Pl.PY(h:p.off=false):p.sm 1000000:=by have:=Pl.on h;exact⟨ac,ac,ac,ac⟩
def abG(hX:cp X)(p:Pl):C X (.func 134) [p.v] m m.n (.bool p.off) m:=by apply Cl.fl hX (MZ func134);rw[F134];dsimp only[aG];refine ah λm1 b0 F d0=>?_;simp only[bd]at F;refine aX (λvs m2 lo=>vs=[.bool p.off]/\lo=m.n) (λR hR=>?_) ?_;simp only[ae,ak,ck,ag,bM,aT,cK,aK,cW,cx,aJ,bY,bC,ptrTo,cG,lq,Zp,Nat.reduceAdd,Lf,S5,MP,Hn,Dh,T9,O6,bd,nw,lH,jS,nq,nu,lG,cR,dZ,bS,aH F,tM,Ak];refine af (λh=>hR _ _ _ ⟨by simp only[Pl.off,h];rfl,rfl⟩) (λh=>hR _ _ _ ⟨by simp only[Pl.off,h];rfl,rfl⟩);rintro _ m2 _ ⟨rfl,rfl⟩;rw[av];exact⟨rfl,ID _⟩
def Pn(l:List Pl)(i:Nat):Bool:=match l[i]?,l[(i+1)%l.length]? with
 |some a,some b=>l.zipIdx.all λ(c,k)=>k==i ||k==(i+1)%l.length ||decide (0 < dW a b c)
 |_,_=>false
def rf(l:List Pl):Bool:=(List.range l.length).all (Pn l)
def bP(l:List Pl):Bool:=decide (3<=l.length) && decide (l.length<=8) && !(l.any Pl.off) && rf l
def dL{l:List Pl}(h:bP l):3<=l.length/\l.length<=8:=by simp only[bP,De,FG]at h;grind
def AM{l:List Pl}(h:bP l):∀p∈l,p.off=false:=by simp only[bP,De,MK,Ui]at h;grind
def lU{l:List Pl}(h:bP l):∀p∈l,p.sm 1000000:=λp F=>Pl.PY (AM h p F)
def vS{l:List Pl}{a b:Pl}(F:l[i]?=some a)(hb:l[(i+1)%l.length]?=some b):
  Pn l i↔∀k c,l[k]?=some c->k=i\/k=(i+1)%l.length\/0<dW a b c:=by unfold Pn;rw[F,hb];simp only[Jo];constructor;intro h k c hc;have:=h (c,k) be;grind;grind
def abB{l:List Pl}(h:bP l){i k:Nat}{a b c:Pl}(F:l[i]?=some a)(hb:l[(i+1)%l.length]?=some b)(hc:l[k]?=some c)(h1:k≠i)(h2:k≠(i+1)%l.length):0<dW a b c:=by simp only[bP,De,rf,Jo,Di]at h;have hr:=h.2 i (Zv.1 F).1;rcases(vS F hb).1 hr k c hc with h|h|h;grind;grind;exact h
def zY(F:cp X){a b c:Pl}(ha:a.sm 1000000)(hb:b.sm 1000000)(hc:c.sm 1000000):C X (.func 135) [a.v,b.v,c.v] m m.n (Ω (dW a b c)) m:=by rw[<-Gk ha hb hc];exact abC F a b c
theorem _root_.Go.D.Sl.fJ{l:List Pl}{v:Φ}(h:Sl m l v){i:Nat}{p:Pl}(hi:l[i]?=some p){k:IntKind}:∃a,aE TE 42 v (.int k i)=some a/\aC TE m 85 a=some p.v:=by have⟨a,cs,h1,F,h3⟩:=h.index cN (k:=k) hi;rw[show cs=p.c from h3]at F;exact⟨a,h1,F⟩
def Ag{a:Nat}(F:b≠0):bE TE .rem t (Ω a) (Ω b)=some (Ω ((a%b:Nat):Int)):=by rw[xB ac];rfl
def lV(hX:cp X){l:List Pl}{v:Φ}(hl:Sl m l v)(hb:l.length<4611686018427387904):C X (.func 90) [v] m m.n (.bool (bP l)) m:=by
 apply Cl.fl hX (MZ func90);rw[F90];dsimp only[aG];refine aX (λvs m2 lo=>vs=[.bool (!(decide (3<=l.length) && decide (l.length<=8) && !(l.any Pl.off)))]/\m=m2/\m.n=lo) (λR hR=>?_) ?_;rw[hl.len cN];simp only[ae,ak,ck,ag,bM,aT,cK,aK,cW,cx,aJ,bY,bC,ptrTo,cG,lq,Zp,Nat.reduceAdd,Lf,S5,MP,Hn,Dh,T9,O6,bd,nw,lH,jS,nq,nu,lG];refine af (λh=>hR _ _ _ ⟨be,rfl,rfl⟩) (λh=>?_);have h3:3<=l.length:=be;refine af (λh=>hR _ _ _ ⟨be,rfl,rfl⟩) (λh=>?_);have h8:l.length<=8:=be;apply aw (uA hX Pl.off hb hl λx _=>abG hX x);exact hR _ _ _ ⟨be,rfl,(U3 _).symm⟩;rintro _ _ _ ⟨rfl,rfl,rfl⟩;rw[av,ag];refine af (λh=>?_) (λh=>?_);refine⟨?_,ID _⟩;simp only[MK]at h;simp only[aM,bP,h,SL];simp only[MI]at h;simp only[De,FG,MK]at h;have⟨⟨h3,h8⟩,b0⟩:=h;have p0:∀p∈l,p.sm 1000000:=λp hp=>Pl.PY (by rw[Ui]at b0;simpa using b0 p hp);have hv:∀r,rf l=r->bP l=r:=λr hr=>(by simp[bP,h3,h8,b0,hr]);rw[hl.len cN,ak];refine Lp.intro (γ:=Nat) (λi=>l.length-i) (λi vs m1 lo=>vs=[IA,Ω i]/\i<=l.length/\Ext m m1/\m.n<=lo/\∀j,j<i->Pn l j) 0 ⟨rfl,PS _,.refl,ID _,λj hj=>ac⟩ ?_;rintro i vs m1 p1 ⟨rfl,hi,hx,P0,h0⟩;simp only[av,aK,ae,ag];refine af (λq0=>?_) (λr1=>?_);have q0:i<l.length:=be;obtain⟨pa,d0⟩:∃p,l[i]?=some p:=⟨_,Iy q0⟩;have Q0:(i+1)%l.length<l.length:=GA _ ac;obtain⟨pb,e0⟩:∃p,l[(i+1)%l.length]?=some p:=⟨_,Iy Q0⟩;have⟨q,e1,e2⟩:=(hl.an hx).fJ (k:=.i64) d0;rw[e1,ae,e2,ae];refine ah λm2 u1 a1 b1=>?_;simp only[ptrTo];refine aj fQ a1 rfl rfl rfl λm3 v1 c1 d1=>?_;have u0:Ext m m3:=⟨by have:=hx.n;omega,λb hb=>by have:=hx.n;rw[d1 b ac,b1 b ac,hx.get b hb]⟩;simp only[aL,ae];rw[wrap64,(hl.an u0).len cN,ak];rw[show((i:Int)+1)=((i+1:Nat):Int) by omega,Ag ac,ae,ak];refine Lp.intro (γ:=Nat) (λk=>l.length-k) (λk vs m4 r0=>vs=[IA,Ω k]/\k<=l.length/\Ext m m4/\m1.n<m4.n/\m4.get m1.n=.cells pa.c 85 none/\m.n<=r0/\∀j c,j<k->l[j]?=some c->j=i\/j=(i+1)%l.length\/0<dW pa pb c) 0 ⟨rfl,PS _,u0,ac,c1,by have:=hx.n;omega,λj c hj=>ac⟩ ?_;rintro k vs m4 r0 ⟨rfl,hk,F,w1,y1,y0,i0⟩;simp only[av,aK,ae,ag];refine af (λj0=>?_) (λo1=>?_);have j0:k<l.length:=be;obtain⟨pc,g0⟩:∃p,l[k]?=some p:=⟨_,Iy j0⟩;have⟨q,e1,e2⟩:=(hl.an F).fJ (k:=.i64) g0;rw[e1,ae,e2,ae];refine ah λm5 A1 g1 h1=>?_;refine aj fQ g1 rfl rfl rfl λm6 B1 i1 j1=>?_;have A0:Ext m m6:=⟨by have:=F.n;omega,λb hb=>by have:=F.n;rw[j1 b ac,h1 b ac,F.get b hb]⟩;have k0:m6.get m1.n=.cells pa.c 85 none:=be;refine aX (λvs m7 lo=>vs=[.bool (!(k==i ||k==(i+1)%l.length ||decide (0<dW pa pb pc)))]/\m7=m6/\m.n<=lo) (λR hR=>?_) ?_;simp only[bY,ae,ag];have l0:m.n<=min r0 m4.n:=(by have:=F.n;omega);refine af (λB0=>?_) (λhe=>?_);have B0:k≠i:=be;refine af (λn0=>?_) (λG1=>?_);have n0:k≠(i+1)%l.length:=be;rw[bZ k0,ae];have⟨q,e1,e2⟩:=(hl.an A0).fJ (k:=.i64) e0;rw[e1,ae,e2,ae,bZ i1,ae];apply aw (zY hX (p0 _ (Vb d0)) (p0 _ (Vb e0)) (p0 _ (Vb g0)));simp only[cK,ae];refine hR _ _ _ ⟨?_,rfl,be⟩;have:decide (dW pa pb pc<=0)= !(decide (0<dW pa pb pc)):=be;rw[this];simp[B0,n0];refine hR _ _ _ ⟨?_,rfl,l0⟩;have:k=(i+1)%l.length:=(by have h':(k:Int)=(((i+1)%l.length:Nat):Int):=be;omega);simp[this]
 refine hR _ _ _ ⟨?_,rfl,l0⟩;have:k=i:=be;simp[this];rintro _ m7 H1 ⟨rfl,rfl,o0⟩;rw[av,ag];refine af (λO0=>?_) (λs0=>?_);have hc:rf l=false:=(by cases hc:rf l with|false=>rfl|true=>simp only[rf,Jo,Di]at hc;have h2:=(vS d0 e0).1 (hc i q0) k pc g0;simp only[MK,Mp,beq_eq_false_iff_ne,QG]at O0;omega);exact⟨by rw[hv false hc];rfl,o0⟩;simp only[aL,ae];rw[wrap64];refine⟨k+1,ac,co,ac,A0,ac,k0,o0,λj c hj hc=>?_⟩;by_cases k1:j<k;exact i0 j c k1 hc;have:j=k:=ac;subst this;rw[g0]at hc;cases hc;simp only[MI,Q9,beq_iff_eq,FG]at s0;omega;have K1:k=l.length:=(by have:¬(k:Int)< (l.length:Int):=be;omega);refine⟨i+1,ac,co,ac,F,y0,λj hj=>?_⟩;by_cases l1:j<i;exact h0 j l1;have:j=i:=ac;subst this;rw[vS d0 e0];intro q c hq;exact i0 q c be hq;have O1:i=l.length:=(by have:¬(i:Int)< (l.length:Int):=be;omega);have hc:rf l:=Jo.2 λj hj=>h0 j be;exact⟨by rw[hv true hc];rfl,P0⟩
def mH(l:List Pl):List (ν):=l.mapIdx λi a=> [a.v,match l[(i+1)%l.length]? with |some b=>b.v |none=>undef]
def RR{l:List Pl}{a b:Pl}(F:l[i]?=some a)(hb:l[(i+1)%l.length]?=some b):(mH l)[i]?=some [a.v,b.v]:=by unfold mH;grind
def yF{l:List Pl}{args:ν}(h:(mH l)[i]?=some args):∃a b,l[i]?=some a/\l[(i+1)%l.length]?=some b/\args=[a.v,b.v]:=by unfold mH at h;rw[List.getElem?_mapIdx,Qp]at h;have⟨a,F,h⟩:=h;have b0:=(Zv.1 F).1;obtain⟨b,hb⟩:∃b,l[(i+1)%l.length]?=some b:=⟨_,Iy (GA _ ac)⟩;grind
def tT{l:List Pl}:(mH l).length=l.length:=by unfold mH;rw[List.length_mapIdx]
def yG(hX:cp X){l:List Pl}{v:Φ}{b:Nat}(hlen:l.length<4611686018427387904):
  ZD TE X (.ob λ_=>False) (.func 305) [] [ptrTo b] (mH l) (λm=>m.get b=.cells [v] 42 none/\Sl m l v):=by intro y n0 B I J m hD hI hJ hy p0 hB d0 h0;refine Cl.gen (R:=λv m2 b=>B<=b/\(I (mH l).length m2\/J m2)) (hX.no _ rfl) (MZ func305) rfl ?_;rw[show([]:ν)++ .func (.yield y) #[] #[]::[ptrTo b]=[.func (.yield y) #[] #[],ptrTo b]from rfl,F305];dsimp only[aG];have ld:∀m1:M,m1.get b=.cells [v] 42 none->aC TE m1 42 (Ψ b 0)=some v:=λm1 h=>(by rw[qy,aH h];rfl);simp only[ptrTo];rw[ld m (hD _ _ h0).1,ae,(hD _ _ h0).2.len cN,ak];refine Lp.intro (γ:=Nat) (λi=>l.length-i) (λi vs m1 lo=>vs=[Ω i]/\i<=l.length/\I i m1/\n0<=m1.n/\B<=lo/\((i=0/\m1=m/\lo=m.n)\/lo<m.n)) 0 ⟨rfl,PS _,h0,p0,ac,.inl ⟨rfl,rfl,rfl⟩⟩ ?_;rintro i vs m1 P0 ⟨rfl,hi,e0,Q0,a1,F⟩;simp only[av,aK,ae,ag];refine af (λg0=>?_) (λb1=>?_);have g0:i<l.length:=be;obtain⟨pa,i0⟩:∃p,l[i]?=some p:=⟨_,Iy g0⟩;have q0:(i+1)%l.length<l.length:=GA _ ac;obtain⟨pb,j0⟩:∃p,l[(i+1)%l.length]?=some p:=⟨_,Iy q0⟩;obtain⟨q,e1,e2⟩:=(hD _ _ e0).2.fJ (k:=.i64) i0;rw[e1,ae,e2,ae];refine ah λm2 c1 r0 d1=>?_;refine aj fQ r0 rfl rfl rfl λm3 g1 s0 i1=>?_;have u0:Ext m1 m3:=⟨ac,be⟩;have k0:=hI _ _ _ e0 u0;obtain⟨y0,l0⟩:=hD _ _ k0;rw[bZ s0,ae,ld m3 y0,ae];simp only[aL,ae];rw[wrap64,l0.len cN,ak];rw[show((i:Int)+1)=((i+1:Nat):Int) by omega,Ag ac,ae];have⟨q,e1,e2⟩:=l0.fJ (k:=.i64) j0;rw[e1,ae,e2,ae,ck];obtain⟨v2,m4,b4,hc,j1,k1,l1,o0⟩:=d0 i [pa.v,pb.v] m3 ac (RR i0 j0) k0;apply aw hc;have o1:m3.n<=m4.n:=hc.1;rcases o0 with⟨rfl,A0⟩|⟨rfl,B0⟩;simp only[bC,ae,ag,Pq,aT];exact⟨i+1,ac,rfl,ac,A0,ac,ac,.inr ac⟩;simp only[bC,ae,ag,Gp,bM];exact .inr ⟨.inr ac,ac,.inr B0⟩;have O0:i=l.length:=(by have:¬(i:Int)< (l.length:Int):=be;omega);have b0:I (mH l).length m1:=(by rw[tT,<-O0];exact e0);rcases F with⟨h1,h2,h3⟩|F;rw[h2]at b0;exact .inl ⟨rfl,ac,ac,.inl b0⟩;exact .inr ⟨.inr F,ac,.inl b0⟩
def Ck(hX:cp X){v:Φ}(hv:cells v=[v]):∃m',C X (.func 278) [v] m m.n (.func (.func 305) #[] #[ptrTo m.n]) m'/\Ext m m'/\m'.n=m.n+1/\m'.get m.n=.cells [v] 42 none:=by obtain⟨v',m',b,hc,rfl,rfl,h⟩:=Cl.heap (R:=λw m' b=>w=.func (.func 305) #[] #[ptrTo m.n]/\b=m.n/\Ext m m'/\m'.n=m.n+1/\m'.get m.n=.cells [v] 42 none) (hX.no _ rfl) (MZ func278) rfl (m:=m) (args:=[v]) (by rw[F278];dsimp only[aG];refine ah λm1 hn F hk=>?_;rw[hv]at F;exact⟨.inl rfl,rfl,ac,⟨ac,λb hb=>hk b hb⟩,hn,F⟩);exact⟨m',hc,h⟩
def dq(a b:Int):Int:=if a < b then -1 else if b < a then 1 else 0
def Hc(F:cp X)(a:Int):C X (.func 128) [Ω a] m m.n IA m:=by apply Cl.fl F (MZ func128);rw[F128];dsimp only[aG];simp only[bY,ae];exact⟨by simp[aM],ID _⟩
def gh(F:cp X)(a b:Int):C X (.func 83) [Ω a,Ω b] m m.n (Ω (dq a b)) m:=by apply Cl.fl F (MZ func83);rw[F83];dsimp only[aG];refine aw (Hc F a) (aw (Hc F b) ?_);simp only[ag,aT,aK,cx,ae];refine af (λh=>?_) (λh=>?_);have:a<b:=be;exact⟨by simp[aM,dq,this],ac⟩;have h1:¬a<b:=be;refine af (λh=>?_) (λh=>?_);have h2:b<a:=be;exact⟨by simp[aM,dq,h1,h2],ac⟩;have h2:¬b<a:=be;exact⟨by simp[aM,dq,h1,h2],ac⟩
def iY(l:List Pl)(p:Pl):Nat->Int
 |0=>4611686018427387903
 |i+1=>match l[i]?,l[(i+1)%l.length]? with
  |some a,some b=>min (iY l p i) (dW a b p)
  |_,_=>iY l p i
def Gv(l:List Pl)(p:Pl):Int:=dq (iY l p l.length) 0
def sJ:aO TE m 42 0 []=some (.slice (some ⟨m.n,0,none⟩) 0 0,m.push (.cells [] 85 none)):=bv
def qG(hX:cp X){l:List Pl}{v:Φ}(hl:Sl m l v)(F:l≠ [])(hs:l.length<=1000000):
  ∃v' m',C X (.func 43) [v] m m.n v' m'/\Ow m.n m' l v'/\Ext m m':=by have key:=Cl.heap (E:=TE) (X:=X) (f:=43) (args:=[v]) (m:=m) (R:=λv' m' b=>b=m.n/\Ow m.n m' l v'/\Ext m m') (hX.no _ rfl) (MZ func43) rfl ?_;obtain⟨v',m',b,hc,rfl,h3⟩:=key;exact⟨v',m',hc,h3⟩;rw[F43];dsimp only[aG];have b0:bE TE .eql 42 v U7=some IA:=(by rcases hl with⟨_,rfl⟩|⟨b,o,c,bc,g,rfl,_⟩;exact absurd rfl F;simp only[bE,eq?,ua,ai.t42,O6]);rw[b0];simp only[ae,ag,aT];rw[sJ,ak];have d0:Ext m (m.push (.cells [] 85 none)):=Ext.refl.push;have⟨v',m1,e1,e0,he,g0⟩:=mr (m:=m.push (.cells [] 85 none)) yO (b:=m.n) M.aU (hl.an d0) F hs;rw[e1,ak];have h0:=e0.flat F;rw[M.lg]at g0;exact⟨.inl h0,ac,e0.mono (by rw[M.lg];omega),d0.trans he⟩
def Ai(l:List Pl):ν:=l.flatMap Pl.c
theorem rM{l:List Pl}:Ai (p::l)=Ω p.x::Ω p.y::Ai l:=rfl
theorem we:∀l:List Pl,(Ai l).length=l.length*2
 |[]=>rfl
 |p::l=>by rw[rM,S6,S6,we l,S6];omega
theorem Vu:∀{l:List Pl} {i:Nat} {p:Pl},l[i]?=some p->(Ai l)[i*2]?=some (Ω p.x)
 |q::l,0,p,h=>by cases h;rfl
 |q::l,i+1,p,h=>by rw[rM,show(i+1)*2=i*2+1+1 by omega,S5,S5];exact Vu be
theorem Vt:∀{l:List Pl} {i:Nat} {p:Pl},l[i]?=some p->(Ai l)[i*2+1]?=some (Ω p.y)
 |q::l,0,p,h=>by cases h;rfl
 |q::l,i+1,p,h=>by rw[rM,show(i+1)*2+1=i*2+1+1+1 by omega,S5,S5];exact Vt be
theorem GD:∀{l:List Pl} {i:Nat} {p:Pl} (x:Int),l[i]?=some p->(Ai l).set (i*2) (Ω x)=Ai (l.set i ⟨x,p.y⟩)
 |q::l,0,p,x,h=>by cases h;rfl
 |q::l,i+1,p,x,h=>by rw[rM,show(i+1)*2=i*2+1+1 by omega,ND,ND,GD x (by simpa using h),ND,rM]
def DL{l:List Pl}(h:l[i]?=some p):chunk (Ai l) 2 i=p.c:=by have F:=Vu h;have hy:=Vt h;have hl:=we l;have hi:=(Zv.1 h).1;unfold chunk;refine Mh λk=>?_;match k with|0=>rw[Ph ac,PG,Nb];exact F|1=>rw[Ph ac,PG];exact hy|k+2=>rw[L5 be];rfl
def O8{l:List Pl}{c:Nat}(h:m.get b=.cells (Ai l) 85 g):Sl m l (RZ b 0 l.length c):=
 .inr ⟨b,0,c,Ai l,g,rfl,h,by rw[we];show 0+l.length*2<=_;omega,λi x hi=>by rw[Zp];exact DL hi⟩
def WU{n c:Nat}{k:IntKind}(hi:i<n):aE TE 42 (RZ b 0 n c) (.int k i)=some (Ψ b (i*2)):=by have F:0<=(i:Int)/\(i:Int)< (n:Int)/\0<ai.t42.es:=⟨ac,ac,ce⟩;have hd:ai.t42.d=.slice 85:=rfl;simp only[aE,ua,hd];rw[F6 F,bk rfl,Zp];rfl
def pz{cs:ν}{x:Φ}(h:i<cs.length):cs.take i++([x]++cs.drop (i+1))=cs.set i x:=by rw[List.set_eq_take_append_cons_drop,F6 h];rfl
def Pl.dbl(p:Pl):Pl:=⟨2*p.x,2*p.y⟩
def mixed(l:List Pl)(i:Nat):List Pl:=(l.take i).map Pl.dbl++l.drop i
structure Un where
 id:Int
 kind:Int
 dE:Int
 shape:List Pl
 back:Int
 front:Int
abbrev Un.c(u:Un)(w:Φ):ν:=[.int .i64 u.id,.int .i64 u.kind,.int .i64 u.dE,w,.int .i64 u.back,.int .i64 u.front]
instance:aQ Un where
 ty:=44
 sz:=6
 agg:=true
 dQ:=[85]
 rep m u cs:=∃w,cs=u.c w/\Sl m u.shape w
 pos:=ce
 one:=be
 len:=dg
 iH:=by rintro _ _ _ ⟨w,rfl,h⟩;show(true && (true && (true && (one w && (true && (true && true))))))=true;rw[h.one];rfl
 aY:=by
  rintro m m' u cs ⟨w,rfl,h⟩ hk
  exact⟨w,rfl,h.aY λb c t g hb ht=>hk b c t g hb (by simpa[aQ.ty,aQ.dQ]using ht)⟩
abbrev Un.v(u:Un)(w:Φ):Φ:=.agg (u.c w).toArray
abbrev Un.zc:ν:=[.int .i64 0,.int .i64 0,.int .i64 0,.slice none 0 0,.int .i64 0,.int .i64 0]
def bR{u:Un}{w:Φ}(h:m.get b=.cells (u.c w) e g):aC TE m 44 (Ψ b 0)=some (u.v w):=by rw[qw,aI h co];rfl
def Un.dz{u:Un}{w:Φ}(hw:one w):(u.c w).all one:=by show(true && (true && (true && (one w && (true && (true && true))))))=true;rw[hw];rfl
def Ns(m:M)(o:Option Un)(v:Φ):Prop:=match o with |some u=>∃w,v=u.v w/\Sl m u.shape w |none=>v=.agg Un.zc.toArray
def TC:aO TE m 81 1 [(0,.int .i64 n)]=some (.slice (some ⟨m.n,0,none⟩) 1 1,m.push (.cells [.int .i64 n] 3 none)):=bv
def adC(h:m.get b=.cells [Ω n] 3 g):Sl m [n] (RZ b 0 1 1):=
 .inr ⟨b,0,1,_,g,rfl,h,ID _,λi x hi=>by match i with|0=>cases hi;rfl|i+1=>cases hi⟩
def gG(c n:Int):Int:=if c < 0 then(-(c+1))%n else c%n
def rN{c:Int}(F:0<n):0<=gG c n/\gG c n<n:=by unfold gG;split;exact⟨Int.emod_nonneg _ ac,IC _ F⟩;exact⟨Int.emod_nonneg _ ac,IC _ F⟩
def nA(c:Int):Prop:= -9223372036854775808<=c/\c < 9223372036854775808
def yg{c:Int}(hc:nA c)(hn:0<n){P:Φ->Prop}(h:P (Ω (gG c n))):
  aS (bE TE .lss 3 (Ω c) (Ω 0)) λv1=>iR v1 (aS (bE TE .add 3 (Ω c) (Ω 1)) λv2=>aS (CT .neg v2) λv3=>aS (bE TE .rem 3 v3 (Ω n)) λv4=>P v4) (aS (bE TE .rem 3 (Ω c) (Ω n)) λv5=>P v5):=by have⟨h1,h2⟩:=hc;simp only[aK,ae,ag];refine af (λF=>?_) (λF=>?_);have F:c<0:=be;simp only[aL,ae];rw[wrap64,Eu,ae,wrap64,xB ac,ae];have:gG c n=(0-(c+1)).tmod n:=(by unfold gG;grind);grind;have F:¬c<0:=be;rw[xB ac,ae];have:gG c n=c.tmod n:=(by unfold gG;grind);grind
def dt(n lo hi:Int):Bool:=decide (lo<=n) && decide (n<=hi)
section
open Go Go.D Go.ChangeShapes Go.Proofs.Tryz
def ji(c:Array Φ):ν:=c.toList.map λv=>bif bN v then v else undef
def P5:Option Obj->Ob
 |some (.cells c _ _)=> .ro (ji c)
 |_=> .dead
def WE(W:World):Nat->M
 |0=>{st:=.e,n:=0,low:=0}
 |k+1=>(WE W k).push (P5 W.heap[k]?)
theorem Kc(W:World):∀k,(WE W k).n=k
 |0=>rfl
 |k+1=>by show(WE W k).n+1=k+1;rw[Kc W k]
theorem Ke(W:World):∀k b,b<k->(WE W k).get b=P5 W.heap[b]?
 |k+1,b,h=>by show((WE W k).push (P5 W.heap[k]?)).get b=_;by_cases F:b=k;subst F;have:=M.aU (m:=WE W b) (o:=P5 W.heap[b]?);rw[Kc]at this;grind;rw[M.cH (by rw[Kc];omega)];exact Ke W k b ac
def fA(W:World):M:=(WE W W.heap.size).wl W.heap.size
def Dz(W:World):(fA W).n=W.heap.size:=Kc W _
def rF(W:World){b:Nat}(h:b<W.heap.size):(fA W).get b=P5 W.heap[b]?:=Ke W _ b h
def zH(W:World):Sg:=λb=>if b < W.heap.size then some ⟨b,none⟩else none
def mZ{W:World}{i:BI}(h:zH W b=some i):b<W.heap.size/\i=⟨b,none⟩:=by unfold zH at h;grind
def Gu{W:World}(hW:9<W.heap.size):eU Tryz.prog (zH W) (fA W) W:=by refine⟨λb i F=>?_,λb i F=>?_,λb i F=>?_,λb b' i i' F d0 _ _ he=>?_,λg hg=>?_⟩;rw[Dz];exact(mZ F).1;obtain⟨h,rfl⟩:=mZ F;rw[rF W h];(cases ho:W.heap[b]? with|none=>trivial|some o=>cases o with|cells c e fz=>refine⟨rfl,c,e,fz,ho,by simp[ji],λj u u' hu g0 h1=>?_⟩;have b0:(ji c)[j]?=some (bif bN u' then u' else undef):=(by unfold ji;grind);rw[hu]at b0;simp only[T7]at b0;subst b0;(cases hf:bN u' with|true=>exact .flat _ hf|false=>rw[hf]at h1;cases h1)|_=>trivial);obtain⟨h,rfl⟩:=mZ F;exact h;obtain⟨_,rfl⟩:=mZ F;obtain⟨_,rfl⟩:=mZ d0;exact he;have e0:Tryz.prog.globals.size=10:=bv;rw[e0]at hg;unfold zH;grind
theorem sy{α:Type}{Q:Nat->α->Prop}:∀n,(∀i,i<n->∃y,Q i y)->∃l:List α,l.length=n/\∀i y,l[i]?=some y->Q i y
 |0,_=>⟨[],rfl,be⟩
 |n+1,h=>by obtain⟨l,F,hq⟩:=sy n λi hi=>h i ac;obtain⟨y,hy⟩:=h n ac;refine⟨l++ [y],be,λi z hz=>?_⟩;grind
section
variable {H:Type} {enc:TypeId×Φ->H} {W:World} {sp:Nat->Bool} {held:Bool} {base:Nat}
set_option maxRecDepth 10000 in
theorem EH{α:Type}[aQ α]{Py:α->Prop}{v:Φ}{fuel:Nat}{x:DataW H×List MemPlace}(ht:Tryz.prog.underlying t=some (.slice e))(l0:Tryz.prog.cellsOf e=aQ.sz α)
  (n0:∀fuel cs x,DataW.trod enc Tryz.prog W 0 sp held fuel e cs=some x->∃y:α,Py y/\(∀m,aQ.rep m y cs)/\∀u∈cs,bN u=true)
  (g0:Cell.okWide Tryz.prog W .any base t v) (h:DataW.trod enc Tryz.prog W 0 sp held fuel t [v]=some x):
  bs (zH W) v v/\∃l:List α,K5 (fA W) l v/\l.length < 9223372036854775808/\∀y∈l,Py y:=by rcases DataW.trod_slice ht h with⟨hv,_⟩ |⟨a,len,cap,elems,rest,n,rfl,hv,rfl,hb,hl,hm,hlen,h0,_,_⟩;simp only[List.cons.injEq,and_true]at hv;subst hv;exact⟨.flat _ rfl,[],.inl ⟨rfl,rfl⟩,co,λy hy=>by cases hy⟩;simp only[List.cons.injEq,and_true]at hv;subst hv;simp only[Cell.okWide,Cell.ok,ht]at g0;have⟨_,_,_,b0,row,cells,F,_⟩:=g0;have⟨dK,off,A0⟩:=a;dsimp only at b0 F hb;subst b0;unfold World.shape? at F;cases ho:W.heap[dK]? with|none=>rw[ho]at F;cases F|some o=>rw[ho]at F;cases o with|cells c e' fz=>have i0:dK < W.heap.size:=(Q7.1 ho).1;have o0:zH W dK=some ⟨dK,none⟩:=(by unfold zH;rw[F6 i0]);refine⟨.slice ⟨dK,off,none⟩ ⟨dK,none⟩ len cap o0 rfl rfl,?_⟩;have y0:=aQ.pos (α:=α);obtain⟨l,p0,hq⟩:=sy (Q:=λi (y:α)=>Py y/\off+i*aQ.sz α+aQ.sz α<=(ji c).length/\aQ.rep (fA W) y (((ji c).drop (off+i*aQ.sz α)).take (aQ.sz α))) len λi hi=>(by have he:=h0 i hi;rw[vA]at he;have⟨e0,q0,r0⟩:=YZ.1 he;obtain⟨y,hy,j0,s0⟩:=n0 _ _ _ r0;obtain⟨_,u0,k0⟩:=World.cells?_some q0;rw[l0]at u0 k0;have d0:∀j,j < aQ.sz α->c[off+i*aQ.sz α+j]?=e0[j]?:=λj hj=>(by have:=k0 j hj;rw[D.eQ,D.eQ]at this;rw[<-this];simp only[World.cell?,ho];rfl);have hbound:off+i*aQ.sz α+aQ.sz α<=(ji c).length:=(by have:=d0 (aQ.sz α-1) ac;rw[vA]at this;have:=(Q7.1 this).1;unfold ji;rw[OG,Il];omega);refine⟨y,hy,hbound,?_⟩;have:((ji c).drop (off+i*aQ.sz α)).take (aQ.sz α)=e0:=(by apply Mh;intro j;by_cases hj:j < aQ.sz α;rw[Ph hj,PG];unfold ji;rw[OB,Jk,d0 j hj];(cases hu:e0[j]? with|none=>rfl|some u=>rw[O6,s0 u (Vb hu)];rfl);rw[L5 (by rw[Zu];omega),L5 ac]);rw[this];exact j0 _);refine⟨l,.inr ⟨dK,off,cap,ji c,by rw[p0],?_,λi y hi=>⟨(hq i y hi).2.1,(hq i y hi).2.2⟩⟩,?_,λy hy=>?_⟩;rw[rF W i0,ho];rfl;have:maxLen < 9223372036854775808:=(by unfold maxLen;decide);omega;have⟨i,hi⟩:=Db.1 hy;exact(hq i y hi).1|_=>cases F
def Fb{t:TypeId}{n:Nat}{cs:ν}{fuel:Nat}{x:DataW H×List MemPlace}(ht:Tryz.prog.underlying t=some (.array n 3))(F:Tryz.prog.cellsOf t=n)
  (h:DataW.trod enc Tryz.prog W 0 sp held fuel t cs=some x):∃l:List Int,cs=l.map (.int .i64)/\l.length=n/\∀z∈l,nA z:=by obtain⟨xs,m,rfl,rfl,b0,i0,d0⟩:=DataW.trod_array ht h;rw[F]at b0;have h3:Tryz.prog.underlying 3=some (.int .i64):=bv;have e0:Tryz.prog.cellsOf 3=1:=bv;obtain⟨l,hl,hq⟩:=sy (Q:=λi (z:Int)=>cs[i]?=some (Ω z)/\nA z) n λi hi=>(by have:=d0 i hi;rw[e0,vA]at this;obtain⟨z,hz,_,g0⟩:=DataW.trod_int h3 this;refine⟨z,?_,?_⟩;have:=congrArg (λq:ν=>q[0]?) hz;grind;have h0:IntKind.i64.min= -9223372036854775808/\IntKind.i64.max=9223372036854775807:=⟨ce,ce⟩;simp only[Lit.wf,De,FG,h0]at g0;unfold nA;omega);refine⟨l,?_,hl,λz hz=>?_⟩;apply Mh;grind;have⟨i,hi⟩:=Db.1 hz;grind
end
end
section
open Go Go.D Go.ChangeShapes Go.Proofs.Tryz
def acP:Tryz.prog.underlying 4=some .bool:=bv
def HE{X:aF}(hX:cM Tryz.prog X){W:World}(hW:9<W.heap.size){f:Nat}{args:ν}{args':Array Φ}{m':M}{b:Bool}(h:C X (.func f) args (fA W) (fA W).n (.bool b) m')(hl:bL (zH W) args args'.toList):
  Calls Tryz.prog f args' W λe W'=>e=.returned (.bool b)/\Go.RowKit.Below W.heap.size W W':=by have⟨hn,_,n0,hc⟩:=h;have h1:=hc n0 (ID _) (fA W).n (ID _);have b0:eU Tryz.prog (zH W) ((fA W).wl (fA W).n) W:=(by have:=Gu hW;exact⟨this.uv,this.obj,this.lt,this.inj,this.mA⟩);refine(wX ai.ok hX h1 b0 hl).mono λe w' he=>?_;obtain⟨v',e0,rfl,hv,F⟩:=he;have d0:=hv.bK rfl;subst d0;refine⟨rfl,F.os,F.tape,F.output,F.hle,λB hB=>F.heap B hB λb i hb hi=>?_⟩;have:=(mZ hb).1;show b<min (fA W).n (fA W).n;rw[Dz];omega
end
section
open Go.ChangeShapes Go.WideShapes Go.ChangeAt Go.RowKit
def yr(os:Os):World:=World.laidAll Tryz.prog os Rows.worksRecordsRow.laid
def Qx{os:Os}:(World.holding Tryz.prog os ⟨#[], #[],[]⟩).layFits Tryz.prog Rows.worksRecordsRow.laid []=true:=bv
def IY{os:Os}:(World.holding Tryz.prog os ⟨#[], #[],[]⟩).layIfaces Tryz.prog Rows.worksRecordsRow.laid (World.laidAll Tryz.prog os Rows.worksRecordsRow.laid)=true:=bv
