/- What the words of the formulas .. -/
import Derived.Test.YthffgohpkjpkbaaGreatDoorTabJ
import Derived.Test.YthffgohpkjpkbaaGreatDoorG2J
import Derived.OpenShut
import Derived.Test.YthffgohpkjpkbaaGreatDoorTie
import Derived.ProofKit
import Derived.Lay
import Derived.Deep.DeepWitnessRowRef
set_option linter.defProp false
set_option maxRecDepth 100000
noncomputable section
open Go Go.D Go.Proofs.Tryz
namespace Go.Proofs.YthffgohpkjpkbaaGreatDoor
variable{m:M}{b o:Nat}{a:Addr}
def aaB{l:Ω}(h:l.length=1):∃F,l=[F]:=by match l,h with|[F],_=>exact⟨F,rfl⟩
def abh{l:Ω}(h:l.length=2):∃F y1,l=[F,y1]:=by match l,h with|[F,y1],_=>exact⟨F,y1,rfl⟩
def Dq{l:Ω}(h:l.length=4):∃F y1 y2 y3,l=[F,y1,y2,y3]:=by match l,h with|[F,y1,y2,y3],_=>exact⟨F,y1,y2,y3,rfl⟩
def Dp{l:Ω}(h:l.length=5):∃F y1 y2 y3 y4,l=[F,y1,y2,y3,y4]:=by match l,h with|[F,y1,y2,y3,y4],_=>exact⟨F,y1,y2,y3,y4,rfl⟩
def aaQ{l:Ω}(h:l.length=6):∃F y1 y2 y3 y4 y5,l=[F,y1,y2,y3,y4,y5]:=by match l,h with|[F,y1,y2,y3,y4,y5],_=>exact⟨F,y1,y2,y3,y4,y5,rfl⟩
def WM:TE.ty.get 29=some ai.t29:=bv
def WL:TE.ty.get 32=some ai.t32:=bv
def WK:TE.ty.get 37=some ai.t37:=bv
def aaP:TE.ty.get 43=some ai.t43:=bv
def adB:TE.ty.get 46=some ai.t46:=bv
def WH:TE.ty.get 48=some ai.t48:=bv
def abt:TE.ty.get 50=some ai.t50:=bv
def adt:TE.ty.get 58=some ai.t58:=bv
def abP:TE.ty.get 60=some ai.t60:=bv
def abR:TE.ty.get 68=some ai.t68:=bv
def aei:TE.ty.get 85=some ai.t85:=bv
def WA:TE.ty.get 87=some ai.t87:=bv
def Wz:TE.ty.get 96=some ai.t96:=bv
def Tw:TE.ty.get 103=some ai.t103:=bv
def aaN:TE.ty.get 234=some ai.t234:=bv
def Tu:TE.ty.get 242=some ai.t242:=bv
def abY:TE.ty.get 307=some ai.t307:=bv
def adU:TE.ty.get 309=some ai.t309:=bv
def rh{P:Prop}(h:P:=by simp only[bz,WM,WL,WK,aaP,adB,WH,abt,adt,abP,abR,aei,WA,Wz,Tw,aaN,Tu,abY,adU,ai.t29,ai.t32,ai.t37,ai.t43,ai.t46,ai.t48,ai.t50,ai.t58,ai.t60,ai.t68,ai.t85,ai.t87,ai.t96,ai.t103,ai.t234,ai.t242,ai.t307,ai.t309,fill,bd,LB,IM,Vz,Vt,Br];(repeat (rename (cells _).length=_=>h;(first|obtain⟨_,e⟩:=aaB h|obtain⟨_,_,e⟩:=abh h|obtain⟨_,_,_,_,e⟩:=Dq h|obtain⟨_,_,_,_,_,e⟩:=Dp h|have⟨_,_,_,_,_,_,e⟩:=aaQ h);simp only[e];clear h e));rfl):P:=h
def acB{x0 x1:Φ}(F:(cells x0).length=1)(h1:(cells x1).length=1):bz TE 103 [(0,x0),(1,x1)]=some (.agg (cells x0++(cells x1)).toArray):=rh
def zO{x0:Φ}(F:(cells x0).length=2):bz TE 242 [(0,x0)]=some (.agg (cells x0).toArray):=rh
def EC:bz TE 29 []=some (.agg (([LF]:Ω)).toArray):=bv
def vP{x0:Φ}(F:(cells x0).length=1):bz TE 29 [(0,x0)]=some (.agg (cells x0).toArray):=rh
def Al{x0 x1 x2:Φ}(F:(cells x0).length=1)(h1:(cells x1).length=1)(h2:(cells x2).length=1):bz TE 307 [(0,x0),(1,x1),(2,x2)]=some (.agg (cells x0++(cells x1++(cells x2))).toArray):=rh
def adL{x0 x1 x2:Φ}(F:(cells x0).length=1)(h1:(cells x1).length=1)(h2:(cells x2).length=1):bz TE 309 [(0,x0),(1,x1),(2,x2)]=some (.agg (cells x0++(cells x1++(cells x2))).toArray):=rh
def ka:bz TE 32 []=some (.agg (([LF]:Ω)++(([LF]:Ω))).toArray):=bv
def CS{x0:Φ}(F:(cells x0).length=1):bz TE 32 [(0,x0)]=some (.agg (cells x0++(([LF]:Ω))).toArray):=rh
def re{x0 x1:Φ}(F:(cells x0).length=1)(h1:(cells x1).length=1):bz TE 32 [(0,x0),(1,x1)]=some (.agg (cells x0++(cells x1)).toArray):=rh
def CR{x0:Φ}(F:(cells x0).length=1):bz TE 32 [(1,x0)]=some (.agg (([LF]:Ω)++(cells x0)).toArray):=rh
def adY:bz TE 37 []=some (.agg (([LF,LF]:Ω)++(([LF]:Ω)++(([LF]:Ω)++(([LF]:Ω))))).toArray):=bv
def JJ{x0:Φ}(F:(cells x0).length=2):bz TE 37 [(0,x0)]=some (.agg (cells x0++(([LF]:Ω)++(([LF]:Ω)++(([LF]:Ω))))).toArray):=rh
def CQ{x0 x1 x2:Φ}(F:(cells x0).length=2)(h1:(cells x1).length=1)(h2:(cells x2).length=1):bz TE 37 [(0,x0),(2,x1),(3,x2)]=some (.agg (cells x0++(([LF]:Ω)++(cells x1++(cells x2)))).toArray):=rh
def qo:bz TE 43 []=some (.agg (([.int .i64 0]:Ω)++(([.int .i64 0]:Ω)++(([.int .i64 0]:Ω)++(([LF]:Ω)++(([.int .i64 0]:Ω)++(([.int .i64 0]:Ω))))))).toArray):=bv
def th{x0 x1 x2 x3 x4 x5:Φ}(F:(cells x0).length=1)(h1:(cells x1).length=1)(h2:(cells x2).length=1)(h3:(cells x3).length=1)(h4:(cells x4).length=1)(h5:(cells x5).length=1):bz TE 43 [(0,x0),(1,x1),(2,x2),(3,x3),(4,x4),(5,x5)]=some (.agg (cells x0++(cells x1++(cells x2++(cells x3++(cells x4++(cells x5)))))).toArray):=rh
def ab2{x0 x1 x2 x3 x4:Φ}(F:(cells x0).length=1)(h1:(cells x1).length=1)(h2:(cells x2).length=1)(h3:(cells x3).length=1)(h4:(cells x4).length=1):bz TE 43 [(0,x0),(1,x1),(2,x2),(4,x3),(5,x4)]=some (.agg (cells x0++(cells x1++(cells x2++(([LF]:Ω)++(cells x3++(cells x4)))))).toArray):=rh
def qZ{x0 x1:Φ}(F:(cells x0).length=1)(h1:(cells x1).length=1):bz TE 46 [(0,x0),(1,x1)]=some (.agg (cells x0++(cells x1)).toArray):=rh
def aa2:bz TE 58 []=some (.agg (([.int .i64 0]:Ω)++(([.int .i64 0,.int .i64 0,.int .i64 0,LF,.int .i64 0,.int .i64 0]:Ω)++(([.int .i64 0]:Ω)++(([.int .i64 0]:Ω)++(([.int .i64 0]:Ω)++(([.int .i64 0]:Ω))))))).toArray):=bv
def vN{x0:Φ}(F:(cells x0).length=1):bz TE 58 [(0,x0)]=some (.agg (cells x0++(([ν 0,ν 0,ν 0,LF,ν 0,ν 0]:Ω)++(([ν 0]:Ω)++(([ν 0]:Ω)++(([ν 0]:Ω)++(([ν 0]:Ω))))))).toArray):=rh
def CO{x0 x1 x2:Φ}(F:(cells x0).length=1)(h1:(cells x1).length=1)(h2:(cells x2).length=1):bz TE 60 [(0,x0),(1,x1),(2,x2)]=some (.agg (cells x0++(cells x1++(cells x2))).toArray):=rh
def NK:bz TE 68 []=some (.agg (([.int .i64 0]:Ω)++(([.int .i64 0]:Ω)++(([.int .i64 0]:Ω)++(([.int .i64 0]:Ω)++(([L4]:Ω)))))).toArray):=bv
def JI{x0:Φ}(F:(cells x0).length=6):bz TE 85 [(0,x0)]=some (.agg (cells x0++(([LF]:Ω))).toArray):=rh
def FY{x0 x1:Φ}(F:(cells x0).length=1)(h1:(cells x1).length=6):bz TE 87 [(0,x0),(1,x1)]=some (.agg (cells x0++(cells x1++(([ν 0]:Ω)++(([ν 0]:Ω)++(([ν 0]:Ω)++(([ν 0,ν 0,ν 0,ν 0,L4]:Ω))))))).toArray):=rh
def FX{x0 x1:Φ}(F:(cells x0).length=1)(h1:(cells x1).length=1):bz TE 87 [(0,x0),(2,x1)]=some (.agg (cells x0++(([ν 0,ν 0,ν 0,LF,ν 0,ν 0]:Ω)++(cells x1++(([ν 0]:Ω)++(([ν 0]:Ω)++(([ν 0,ν 0,ν 0,ν 0,L4]:Ω))))))).toArray):=rh
def FW{x0 x1:Φ}(F:(cells x0).length=1)(h1:(cells x1).length=5):bz TE 87 [(0,x0),(5,x1)]=some (.agg (cells x0++(([ν 0,ν 0,ν 0,LF,ν 0,ν 0]:Ω)++(([ν 0]:Ω)++(([ν 0]:Ω)++(([ν 0]:Ω)++(cells x1)))))).toArray):=rh
def CJ{k:IntKind}{n:Int}:Te TE m 220 3 (.int k n)=some (.int .i64 (IntKind.wrap .i64 n)):=bv
def CI{k:IntKind}{n:Int}:Te TE m 3 220 (.int k n)=some (.int .u64 (IntKind.wrap .u64 n)):=bv
def MT{t i k:Nat}(h:az TE t (Ψ b o) i=some (.pointer (some (Addr.add ⟨b,o,none⟩ k)))):az TE t (Ψ b o) i=some (Ψ b (o+k)):=by rw[h,bs rfl]
def iE:az TE 103 (Ψ b o) 0=some (Ψ b (o+0)):=MT bv
def jB:az TE 103 (Ψ b o) 1=some (Ψ b (o+1)):=MT bv
def rF:az TE 234 (Ψ b o) 0=some (Ψ b (o+0)):=MT bv
def mO:az TE 234 (Ψ b o) 2=some (Ψ b (o+2)):=MT bv
def bU:az TE 242 (Ψ b o) 0=some (Ψ b (o+0)):=MT bv
def sQ:az TE 25 (Ψ b o) 0=some (Ψ b (o+0)):=MT bv
def sO:az TE 25 (Ψ b o) 1=some (Ψ b (o+1)):=MT bv
def bk:az TE 29 (Ψ b o) 0=some (Ψ b (o+0)):=MT bv
def Ai:az TE 307 (Ψ b o) 0=some (Ψ b (o+0)):=MT bv
def Ah:az TE 307 (Ψ b o) 1=some (Ψ b (o+1)):=MT bv
def ab4:az TE 307 (Ψ b o) 2=some (Ψ b (o+2)):=MT bv
def mN:az TE 309 (Ψ b o) 0=some (Ψ b (o+0)):=MT bv
def mM:az TE 309 (Ψ b o) 1=some (Ψ b (o+1)):=MT bv
def mL:az TE 309 (Ψ b o) 2=some (Ψ b (o+2)):=MT bv
def bP:az TE 32 (Ψ b o) 0=some (Ψ b (o+0)):=MT bv
def bI:az TE 32 (Ψ b o) 1=some (Ψ b (o+1)):=MT bv
def dq:az TE 37 (Ψ b o) 0=some (Ψ b (o+0)):=MT bv
def dQ:az TE 37 (Ψ b o) 1=some (Ψ b (o+2)):=MT bv
def fD:az TE 37 (Ψ b o) 2=some (Ψ b (o+3)):=MT bv
def eM:az TE 37 (Ψ b o) 3=some (Ψ b (o+4)):=MT bv
def aW:az TE 43 (Ψ b o) 0=some (Ψ b (o+0)):=MT bv
def cX:az TE 43 (Ψ b o) 1=some (Ψ b (o+1)):=MT bv
def cj:az TE 43 (Ψ b o) 2=some (Ψ b (o+2)):=MT bv
def bA:az TE 43 (Ψ b o) 3=some (Ψ b (o+3)):=MT bv
def dp:az TE 43 (Ψ b o) 4=some (Ψ b (o+4)):=MT bv
def dn:az TE 43 (Ψ b o) 5=some (Ψ b (o+5)):=MT bv
def cW:az TE 46 (Ψ b o) 0=some (Ψ b (o+0)):=MT bv
def eh:az TE 46 (Ψ b o) 1=some (Ψ b (o+1)):=MT bv
def ab0:az TE 50 (Ψ b o) 0=some (Ψ b (o+0)):=MT bv
def ab1:az TE 50 (Ψ b o) 1=some (Ψ b (o+1)):=MT bv
def dP:az TE 58 (Ψ b o) 0=some (Ψ b (o+0)):=MT bv
def eg:az TE 58 (Ψ b o) 1=some (Ψ b (o+1)):=MT bv
def dm:az TE 58 (Ψ b o) 2=some (Ψ b (o+7)):=MT bv
def cV:az TE 58 (Ψ b o) 3=some (Ψ b (o+8)):=MT bv
def dD:az TE 58 (Ψ b o) 4=some (Ψ b (o+9)):=MT bv
def cU:az TE 58 (Ψ b o) 5=some (Ψ b (o+10)):=MT bv
def eL:az TE 60 (Ψ b o) 0=some (Ψ b (o+0)):=MT bv
def fA:az TE 60 (Ψ b o) 1=some (Ψ b (o+1)):=MT bv
def sN:az TE 60 (Ψ b o) 2=some (Ψ b (o+2)):=MT bv
def bS:az TE 68 (Ψ b o) 0=some (Ψ b (o+0)):=MT bv
def dk:az TE 68 (Ψ b o) 1=some (Ψ b (o+1)):=MT bv
def eK:az TE 68 (Ψ b o) 2=some (Ψ b (o+2)):=MT bv
def kL:az TE 68 (Ψ b o) 3=some (Ψ b (o+3)):=MT bv
def fy:az TE 68 (Ψ b o) 4=some (Ψ b (o+4)):=MT bv
def cf:az TE 85 (Ψ b o) 0=some (Ψ b (o+0)):=MT bv
def dO:az TE 85 (Ψ b o) 1=some (Ψ b (o+6)):=MT bv
def ia:az TE 87 (Ψ b o) 0=some (Ψ b (o+0)):=MT bv
def dj:az TE 87 (Ψ b o) 1=some (Ψ b (o+1)):=MT bv
def cK:az TE 87 (Ψ b o) 2=some (Ψ b (o+7)):=MT bv
def hH:az TE 87 (Ψ b o) 3=some (Ψ b (o+8)):=MT bv
def gZ:az TE 87 (Ψ b o) 4=some (Ψ b (o+9)):=MT bv
def eJ:az TE 87 (Ψ b o) 5=some (Ψ b (o+10)):=MT bv
def kJ:az TE 96 (Ψ b o) 2=some (Ψ b (o+2)):=MT bv
def kH:az TE 96 (Ψ b o) 3=some (Ψ b (o+3)):=MT bv
def kG:az TE 96 (Ψ b o) 4=some (Ψ b (o+4)):=MT bv
def Xg{a:Option Addr}{n c:Nat}:aR TE m .len [27] [.slice a n c]=some (.int .i64 n,m):=bv
def B9:aC TE m 103 (.pointer (some a))=(D.loadCells m a 2).map (λcs=> .agg cs.toArray):=bv
def QM:aC TE m 148 (.pointer (some a))=D.cellAt m a:=bv
def aaE:aC TE m 149 (.pointer (some a))=D.cellAt m a:=bv
def KM:aC TE m 22 (.pointer (some a))=D.cellAt m a:=bv
def Hl:aC TE m 228 (.pointer (some a))=D.cellAt m a:=bv
def Uv:aC TE m 23 (.pointer (some a))=D.cellAt m a:=bv
def B8:aC TE m 230 (.pointer (some a))=D.cellAt m a:=bv
def aae:aC TE m 234 (.pointer (some a))=(D.loadCells m a 5).map (λcs=> .agg cs.toArray):=bv
def KL:aC TE m 25 (.pointer (some a))=(D.loadCells m a 3).map (λcs=> .agg cs.toArray):=bv
def dX:aC TE m 27 (.pointer (some a))=D.cellAt m a:=bv
def cY:aC TE m 29 (.pointer (some a))=(D.loadCells m a 1).map (λcs=> .agg cs.toArray):=bv
def bR:aC TE m 3 (.pointer (some a))=D.cellAt m a:=bv
def kz:aC TE m 30 (.pointer (some a))=D.cellAt m a:=bv
def acH:aC TE m 309 (.pointer (some a))=(D.loadCells m a 3).map (λcs=> .agg cs.toArray):=bv
def oQ:aC TE m 32 (.pointer (some a))=(D.loadCells m a 2).map (λcs=> .agg cs.toArray):=bv
def Uu:aC TE m 33 (.pointer (some a))=D.cellAt m a:=bv
def Ft:aC TE m 34 (.pointer (some a))=D.cellAt m a:=bv
def Ut:aC TE m 35 (.pointer (some a))=D.cellAt m a:=bv
def aat:aC TE m 37 (.pointer (some a))=(D.loadCells m a 5).map (λcs=> .agg cs.toArray):=bv
def sE:aC TE m 4 (.pointer (some a))=D.cellAt m a:=bv
def qP:aC TE m 41 (.pointer (some a))=D.cellAt m a:=bv
def qO:aC TE m 43 (.pointer (some a))=(D.loadCells m a 6).map (λcs=> .agg cs.toArray):=bv
def qN:aC TE m 46 (.pointer (some a))=(D.loadCells m a 2).map (λcs=> .agg cs.toArray):=bv
def wT:aC TE m 48 (.pointer (some a))=(D.loadCells m a 4).map (λcs=> .agg cs.toArray):=bv
def KK:aC TE m 50 (.pointer (some a))=(D.loadCells m a 8).map (λcs=> .agg cs.toArray):=bv
def Ur:aC TE m 54 (.pointer (some a))=D.cellAt m a:=bv
def Uq:aC TE m 58 (.pointer (some a))=(D.loadCells m a 11).map (λcs=> .agg cs.toArray):=bv
def KJ:aC TE m 60 (.pointer (some a))=(D.loadCells m a 3).map (λcs=> .agg cs.toArray):=bv
def Fs:aC TE m 68 (.pointer (some a))=(D.loadCells m a 5).map (λcs=> .agg cs.toArray):=bv
def KI:aC TE m 85 (.pointer (some a))=(D.loadCells m a 7).map (λcs=> .agg cs.toArray):=bv
def Fq:aC TE m 87 (.pointer (some a))=(D.loadCells m a 15).map (λcs=> .agg cs.toArray):=bv
def Fp:aC TE m 96 (.pointer (some a))=(D.loadCells m a 5).map (λcs=> .agg cs.toArray):=bv
def Bh:TE.ty.get 103=some ai.t103:=bv
def ac4:TE.ty.get 149=some ai.t149:=bv
def WS:TE.ty.get 157=some ai.t157:=bv
def VS:TE.ty.get 22=some ai.t22:=bv
def lh:TE.ty.get 234=some ai.t234:=bv
def Gy:TE.ty.get 27=some ai.t27:=bv
def iz:TE.ty.get 29=some ai.t29:=bv
def zV:TE.ty.get 3=some ai.t3:=bv
def DO:TE.ty.get 30=some ai.t30:=bv
def Bg:TE.ty.get 309=some ai.t309:=bv
def eH:TE.ty.get 32=some ai.t32:=bv
def J5:TE.ty.get 33=some ai.t33:=bv
def Pg:TE.ty.get 34=some ai.t34:=bv
def VR:TE.ty.get 35=some ai.t35:=bv
def pM:TE.ty.get 37=some ai.t37:=bv
def Gx:TE.ty.get 4=some ai.t4:=bv
def uD:TE.ty.get 41=some ai.t41:=bv
def dN:TE.ty.get 43=some ai.t43:=bv
def fQ:TE.ty.get 46=some ai.t46:=bv
def zq:TE.ty.get 48=some ai.t48:=bv
def uC:TE.ty.get 50=some ai.t50:=bv
def zp:TE.ty.get 58=some ai.t58:=bv
def J4:TE.ty.get 60=some ai.t60:=bv
def rA:TE.ty.get 68=some ai.t68:=bv
def Gw:TE.ty.get 85=some ai.t85:=bv
def kT:TE.ty.get 96=some ai.t96:=bv
def Us{f:Nat}{c:Func}(h:Tryz.prog.funcs[f]?=some c)(g:(TE.fn.get f).isSome:=by kernel_rfl):TE.fn.get f=some c:=by cases e:TE.fn.get f with| none=>rw[e]at g;cases g| some d=>have q:=ai.ok.fn f d e;rw[h]at q;cases q;rfl
end Go.Proofs.YthffgohpkjpkbaaGreatDoor
namespace Go.D
open Go
variable{m m':M}{b:Option Addr}
structure Nf(P Q:Prop):Prop where
 e:P=Q
def nfI{P Q:Prop}(h:Nf P Q):Nf P Q:=h
variable{W:Words}
def nfM{f F:M->Prop}(h:m=m')(h2:∀v,Nf (f v) (F v)):Nf (W.nf m f) (W.nf m' F):=⟨by rw[h,funext λv=>(h2 v).e]⟩
def nfS{α:Type}{a F:Option α}{f f':α->Prop}(h:a=F)(h2:∀v,Nf (f v) (f' v)):Nf (W.aS a f) (W.aS F f'):=⟨by rw[h,funext λv=>(h2 v).e]⟩
def nf2{α β:Type}{a F:Option (α×β)}{f f':α->β->Prop}(h:a=F)(h2:∀v w,Nf (f v w) (f' v w)):Nf (W.dh a f) (W.dh F f'):=⟨by rw[h,funext λv=>funext λw=>(h2 v w).e]⟩
def nfC{g F:Fn}{l l':Ω}{f f':Φ->M->Nat->Prop}(h0:g=F)(h1:l=l')(h:m=m')(h2:∀a b c,Nf (f a b c) (f' a b c)):Nf (W.lV g l m f) (W.lV F l' m' f'):=⟨by rw[h0,h1,h,funext λv=>funext λw=>funext λz=>(h2 v w z).e]⟩
def nfV{v v':Φ}{P Q F Q':Prop}(h:v=v')(h1:Nf P F)(h2:Nf Q Q'):Nf (iU v P Q) (iU v' F Q'):=⟨by rw[h,h1.e,h2.e]⟩
def nfU{v v':Ω}{f F:Φ->Ω->Prop}(h:v=v')(h2:∀a b,Nf (f a b) (F a b)):Nf (W.un v f) (W.un v' F):=⟨by rw[h,funext λv=>funext λw=>(h2 v w).e]⟩
def nfJ{G F:(Ω->M->Nat->Prop)->Prop}{k k':Ω->M->Nat->Prop}(h1:∀R,Nf (G R) (F R))(h2:∀a b c,Nf (k a b c) (k' a b c)):Nf (W.jn G k) (W.jn F k'):=⟨by rw[funext λR=>(h1 R).e,funext λv=>funext λw=>funext λz=>(h2 v w z).e]⟩
def nfL{F F':(Ω->M->Nat->Prop)->Ω->M->Nat->Prop}{vs b0:Ω}{lo d0:Nat}(h1:∀P a b c,Nf (F P a b c) (F' P a b c))(h2:vs=b0)(h3:m=m')(h4:lo=d0):Nf (W.Lp F vs m lo) (W.Lp F' b0 m' d0):=⟨by rw[h2,h3,h4,funext λP=>funext λv=>funext λw=>funext λz=>(h1 P v w z).e]⟩
def nf0{α:Type}{a F:Option α}{f f':α->Prop}(h:a=F)(h2:∀v,Nf (f v) (f' v)):Nf (aS a f) (aS F f'):=⟨by rw[h,funext λv=>(h2 v).e]⟩
def nfF{v v':Φ}{P F:Fn->Array Φ->Array Φ->Prop}(h:v=v')(h2:∀a b c,Nf (P a b c) (F a b c)):Nf (rK v P) (rK v' F):=⟨by rw[h,funext λv=>funext λw=>funext λz=>(h2 v w z).e]⟩
def nfA{P Q F Q':Prop}(h:P=F)(h2:Nf Q Q'):Nf (P/\Q) (F/\Q'):=⟨by rw[h,h2.e]⟩
def nfR{R:Ω->M->Nat->Prop}{a a':Ω}{lo F:Nat}(h1:a=a')(h2:m=m')(h3:lo=F):Nf (R a m lo) (R a' m' F):=⟨by rw[h1,h2,h3]⟩
def nfN:Nf False False:=⟨rfl⟩
theorem nfa{l:Ω}:cells (.agg ⟨l⟩)=l:=rfl
theorem nfi{k:IntKind}{z:Int}:cells (.int k z)=[.int k z]:=rfl
theorem nfs{n c:Nat}:cells (.slice b n c)=[.slice b n c]:=rfl
theorem nfb{b:Bool}:cells (.bool b)=[.bool b]:=rfl
theorem nfp:cells (.pointer b)=[.pointer b]:=rfl
theorem nft{b:ByteArray}:cells (.string b)=[.string b]:=rfl
theorem nfm{b:Option Nat}:cells (.map b)=[.map b]:=rfl
theorem nfc{α:Type}{a b:α}{l r:List α}:(a::l)++(b::r)=a::(l++b::r):=rfl
theorem nfd{α:Type}{a:α}{l:List α}:(a::l)++([]:List α)=a::(l++ []):=rfl
theorem nff:cells .nilFunc=[.nilFunc]:=rfl
theorem nfn:cells .nilIface=[.nilIface]:=rfl
def cN{P Q:Prop}(h:Nf P Q:=by repeat' first|intro _|(apply nfI;(conv=>arg 1;whnf);first|apply nfS|apply nf2|apply nfV|apply nfC|apply nfU|apply nfM|apply nfJ|apply nfL|apply nf0|apply nfF|apply nfA|exact nfN|apply nfR)|((try dsimp only[KV.val,pg,KT.get,KT.set,KT.del,sW,forget,cond,nfa,nfi,nfs,nfb,nfp,nft,nfm,nff,nfn,List.nil_append,nfd,nfc]);(try rfl);done)):P=Q:=h.e
end Go.D
namespace Go.Proofs.YthffgohpkjpkbaaGreatDoor
variable{R:Ω->M->Nat->Prop}{X:aF}{T e t:TypeId}{a n:Int}{b i:Nat}{ts:List TypeId}{g:Option Nat}
section
set_option maxRecDepth 100000
set_option maxHeartbeats 0
variable{W:Words}{x0 x1 x2:Φ}{m:M}{R:Ω->M->Nat->Prop}
def F124:=cN (P:=dC TE W f124 [x0,x1] m R)
def F125:=cN (P:=dC TE W f125 [x0] m R)
def F81:=cN (P:=dC TE W f81 [x0,x1,x2] m R)
def F78:=cN (P:=dC TE W f78 [x0] m R)
def F80:=cN (P:=dC TE W f80 [x0] m R)
def F127:=cN (P:=dC TE W f127 [x0,x1] m R)
def F92:=cN (P:=dC TE W f92 [x0,x1] m R)
def F141:=cN (P:=dC TE W f141 [x0] m R)
def F53:=cN (P:=dC TE W f53 [x0] m R)
end
section
abbrev I3(f:Nat):Bool:=(Nat.beq f 99999 ||Nat.beq f 99999 ||Nat.beq f 154 ||Nat.beq f 111 ||Nat.beq f 58 ||Nat.beq f 99999 ||Nat.beq f 128 ||Nat.beq f 99999 ||Nat.beq f 333 ||Nat.beq f 277 ||Nat.beq f 336 ||Nat.beq f 103 ||Nat.beq f 99999 ||Nat.beq f 99999 ||Nat.beq f 94 ||Nat.beq f 91 ||Nat.beq f 97 ||Nat.beq f 6)
structure cy(X:aF):Prop where
 no:∀f,I3 f=false->Gk X f
abbrev C(X:aF):=Cl TE X
section
variable {X:aF} {f:Nat} {fn:Func} {args:Ω} {m:M} {v:Φ} {β:Type} {mk:β->Φ} {Q:β->M->Prop} {R:Φ->M->Prop} {G:Prop}
def Cl.fl(F:cy X)(hf:TE.fn.get f=some fn)(h:dC TE (aG TE X) fn args m λvs m' lo=>aM vs=v/\m.n<=lo)(h0:I3 f=false:=by exact rfl)(hl:Nat.ble args.length fn.ntmps:=by exact rfl)(hv:aZ v:=by exact rfl):C X (.func f) args m m.n v m:=Cl.flat (F.no f h0) hf hl hv h
def Cl.fG(F:cy X)(hf:TE.fn.get f=some fn)(h:fP TE (aG TE X) fn args m λvs m' lo=>aM vs=v/\m.n<=lo)(h0:I3 f=false:=by exact rfl)(hl:Nat.ble args.length fn.ntmps:=by exact rfl)(hv:aZ v:=by exact rfl):C X (.func f) args m m.n v m:=Cl.xG (F.no f h0) hf hl hv h
def Cl.ky(F:cy X)(hf:TE.fn.get f=some fn)(H:dC TE (aG TE X) fn args m λvs m' lo=>(aZ (aM vs)/\m.n<=lo/\m.n=m.n/\R (aM vs) m)\/((aZ (aM vs)=false\/lo<m.n)/\min m.n lo=m.n/\R (aM vs) m'))(k:∀v m',C X (.func f) args m m.n v m'->R v m'->G)(h0:I3 f=false:=by exact rfl)(hl:Nat.ble args.length fn.ntmps:=by exact rfl):G:=by obtain⟨v,m',b,hc,rfl,h⟩:=Cl.gen (R:=λv m' b=>b=m.n/\R v m') (F.no f h0) hf hl H;exact k v m' hc h
def Cl.kyG(F:cy X)(hf:TE.fn.get f=some fn)(H:fP TE (aG TE X) fn args m λvs m' lo=>(aZ (aM vs)/\m.n<=lo/\m.n=m.n/\R (aM vs) m)\/((aZ (aM vs)=false\/lo<m.n)/\min m.n lo=m.n/\R (aM vs) m'))(k:∀v m',C X (.func f) args m m.n v m'->R v m'->G)(h0:I3 f=false:=by exact rfl)(hl:Nat.ble args.length fn.ntmps:=by exact rfl):G:=by obtain⟨v,m',b,hc,rfl,h⟩:=Cl.Hz (R:=λv m' b=>b=m.n/\R v m') (F.no f h0) hf hl H;exact k v m' hc h
def Cl.kI(F:cy X)(hf:TE.fn.get f=some fn)(H:dC TE (aG TE X) fn args m λvs m' lo=>(aZ (aM vs)/\m.n<=lo/\m.n=m.n/\R (aM vs) m)\/((aZ (aM vs)=false\/lo<m.n)/\min m.n lo=m.n/\R (aM vs) m'))(h0:I3 f=false:=by exact rfl)(hl:Nat.ble args.length fn.ntmps:=by exact rfl):∃v m',C X (.func f) args m m.n v m'/\R v m':=Cl.ky F hf H (λ_ _ hc h=>⟨_,_,hc,h⟩) h0 hl
def Cl.Ie(F:cy X)(hf:TE.fn.get f=some fn)(H:fP TE (aG TE X) fn args m λvs m' lo=>(aZ (aM vs)/\m.n<=lo/\m.n=m.n/\R (aM vs) m)\/((aZ (aM vs)=false\/lo<m.n)/\min m.n lo=m.n/\R (aM vs) m'))(h0:I3 f=false:=by exact rfl)(hl:Nat.ble args.length fn.ntmps:=by exact rfl):∃v m',C X (.func f) args m m.n v m'/\R v m':=Cl.kyG F hf H (λ_ _ hc h=>⟨_,_,hc,h⟩) h0 hl
end
structure Pl where
 x:Int
 y:Int
deriving DecidableEq
def Pl.c(p:Pl):Ω:=[.int .i64 p.x,.int .i64 p.y]
abbrev Pl.v(p:Pl):Φ:=.agg #[.int .i64 p.x,.int .i64 p.y]
instance:aQ Pl where
 ty:=46
 sz:=2
 agg:=true
 dU:=[]
 rep _ p cs:=cs=p.c
 pos:=ce
 one:=be
 len:=by rintro _ _ _ rfl;rfl
 iL:=by rintro _ _ _ rfl;rfl
 aY:=be
def cR:rp TE 41 46 Pl:=⟨ai.t41,ai.t46,bv,⟨_,rfl⟩,rfl,bv,rfl,rfl⟩
def zi:vU TE 41 Pl:=⟨ai.t41,ai.t46,bv,rfl,rfl,bv,ce,rfl⟩
instance:aQ Int where
 ty:=3
 sz:=1
 agg:=false
 dU:=[]
 rep _ n cs:=cs=[.int .i64 n]
 pos:=ce
 one:=be
 len:=be
 iL:=by rintro _ _ _ rfl;rfl
 aY:=be
def mX:rp TE 116 3 Int:=⟨ai.t116,ai.t3,bv,⟨_,rfl⟩,rfl,bv,rfl,rfl⟩
def VC:vU TE 116 Int:=⟨ai.t116,ai.t3,bv,rfl,rfl,bv,ce,rfl⟩
def idx{α:Type}(p:α->Bool):List α->Int
 |[]=> -1
 |x::l=>if p x then 0 else match idx p l with |.ofNat n=>n+1 |.negSucc _=> -1
theorem iK{α:Type}(p:α->Bool):∀l:List α,(idx p l= -1/\∀x∈l,p x=false)\/(∃i x,idx p l=(i:Nat)/\l[i]?=some x/\p x/\∀j y,j<i->l[j]?=some y->p y=false)
 |[]=> .inl ⟨rfl,λ_ h=>by cases h⟩
 |x::l=>by cases F:p x with|true=>exact .inr ⟨0,x,by simp[idx,F],rfl,F,λj y hj=>ac⟩|false=>rcases iK p l with⟨h1,h2⟩|⟨i,y,h1,h2,h3,h4⟩;refine .inl ⟨by simp only[idx,F,h1];rfl,λz hz=>?_⟩;grind;refine .inr ⟨i+1,y,by simp only[idx,F,h1];rfl,be,h3,λj z hj hz=>?_⟩;cases j with|zero=>simp at hz;subst hz;exact F|succ j=>exact h4 j z ac (by simpa using hz)
def FA{α:Type}{p:α->Bool}{l:List α}{i:Nat}{x:α}(hx:l[i]?=some x)(hp:p x)(h:∀j y,j<i->l[j]?=some y->p y=false):idx p l=i:=by rcases iK p l with⟨F,h2⟩|⟨k,y,F,h2,h3,h4⟩;grind;grind
def xB{α:Type}{p:α->Bool}{l:List α}(h:∀x∈l,p x=false):idx p l= -1:=by rcases iK p l with⟨F,h2⟩|⟨k,y,F,h2,h3,h4⟩;exact F;grind
def lJ{α:Type}{p:α->Bool}{l:List α}:decide (0<=idx p l)=l.any p:=by rcases iK p l with⟨F,h2⟩|⟨k,y,F,h2,h3,h4⟩;grind;grind
def K2{α:Type}{p:α->Bool}{l:List α}:decide (idx p l<0)= !(l.any p):=by rw[<-lJ];grind
abbrev FB(T t:TypeId)(W:Words)(x0 x1:Φ)(m:M)(R:Ω->M->Nat->Prop):Prop:=
(W.dh (aR TE m .len [T] [x0]) λv1 _=>(W.Lp (λP2 d0 m4 F=>W.un d0 λv6 r7=>W.un r7 λv8 r9=>(W.aS (bE TE .lss 3 v8 v1) λv10=>(iU v10
(W.aS (aE TE T x0 v8) λv11=>(W.aS (aC TE m4 t v11) λv12=>(rK x1 λg13 f14 e0=>(W.lV g13 (f14.toList++([v12]++e0.toList)) m4 λg0 m17 b0=>(iU g0
(R [v8] m17 (min F b0))
(W.aS (bE TE .add 3 v8 (.int .i64 1)) λh0=>(P2 [v6,h0] m17 (min F b0))))))))
(R [.int .i64 (-1)] m4 F)))) [.int .i64 0,.int .i64 0] m (M.n m)))
def UM{W:Words}{x0 x1:Φ}{m:M}:dC TE W f175 [x0,x1] m R=FB 41 46 W x0 x1 m R:=bv
def uk{W:Words}{x0 x1:Φ}{m:M}:dC TE W f87 [x0,x1] m R=FB 27 43 W x0 x1 m R:=bv
def Fy{α:Type}[aQ α](hT:rp TE T t α){m:M}{l:List α}{v:Φ}{g:Fn}{fi ca:Array Φ}{R:Ω->M->Nat->Prop}(J:Nat->M->Nat->Prop)(d0:Nat->M->Nat->Prop)(p:Nat->Bool)(hb:l.length<4611686018427387904)
  (hl:∀i m lo,J i m lo->vT m l v)
  (hs:∀i x m1 F,l[i]?=some x->J i m1 F->∀cs,aQ.rep m1 x cs->∃b m2,C X g (fi.toList++([aQ.val α cs]++ca.toList)) m1 b (.bool (p i)) m2/\(p i->d0 i m2 (min F b))/\(p i=false->J (i+1) m2 (min F b)))
  (h0:J 0 m m.n) (e0:∀i m2 ja,i<l.length->p i->d0 i m2 ja->R [ν i] m2 ja) (g0:∀m2 ja,J l.length m2 ja->R [ν (-1)] m2 ja):
  FB T t (aG TE X) v (.func g fi ca) m R:=by dsimp only[FB,aG];rw[(hl 0 m m.n h0).len hT,an];refine Lp.intro (γ:=Nat) (λi=>l.length-i) (λi vs m lo=>∃w,vs=[w,ν i]/\i<=l.length/\J i m lo) 0 ⟨_,rfl,ZX _,h0⟩ ?_;rintro i vs m1 F ⟨w,rfl,hi,hJ⟩;simp only[av,aK,ae,ag];refine af (λh=>?_) (λh=>?_);have b0:i<l.length:=be;have hx:l[i]?=some l[i]:=Np b0;have⟨a,cs,e1,e2,hr⟩:=(hl i m1 F hJ).index hT (k:=.i64) hx;rw[e1,ae,e2,ae,cx];obtain⟨b,m2,hc,i0,j0⟩:=hs i _ m1 F hx hJ cs hr;apply aw hc;rw[ag];refine af (λhp=>?_) (λhp=>?_);exact e0 i _ _ b0 hp (i0 hp);simp only[aL,ae];refine⟨i+1,ac,w,?_,b0,j0 hp⟩;rw[wrap64];rfl;have k0:i=l.length:=(by have:¬((i:Int)< (l.length:Int)):=be;omega);subst k0;exact g0 _ _ hJ
def Dl{α:Type}[aQ α](hT:rp TE T t α){f:Nat}{fn:Func}(hX:Gk X f)(hf:TE.fn.get f=some fn)(hn:Nat.ble 2 fn.ntmps)
  (hF:∀{W:Words} {x0 x1:Φ} {m:M} {R:Ω->M->Nat->Prop},dC TE W fn [x0,x1] m R=FB T t W x0 x1 m R)
  {m:M} {l:List α} {v:Φ} {g:Fn} {fi ca:Array Φ} (p:α->Bool) (hb:l.length<4611686018427387904) (hl:vT m l v)
  (hs:∀x∈l,∀cs,aQ.rep m x cs->C X g (fi.toList++([aQ.val α cs]++ca.toList)) m m.n (.bool (p x)) m):
  C X (.func f) [v,.func g fi ca] m m.n (ν (idx p l)) m:=by refine Cl.flat hX hf hn rfl ?_;rw[hF];refine Fy hT (l:=l) (λi m1 lo=>m1=m/\lo=m.n/\∀j x,j<i->l[j]?=some x->p x=false) (λi m1 lo=>m1=m/\lo=m.n/\(∀j x,j<i->l[j]?=some x->p x=false)) (λi=>match l[i]? with|some x=>p x|none=>false) hb ?_ ?_ ⟨rfl,rfl,λj x hj=>ac⟩ ?_ ?_;rintro i m1 lo ⟨rfl,_,_⟩;exact hl;rintro i x m1 lo F ⟨rfl,rfl,hJ⟩ cs hr;rw[F];refine⟨_,_,hs x (Jc F) cs hr,λ_=>⟨rfl,Nz _,hJ⟩,λhp=>⟨rfl,Nz _,λj y hj hy=>?_⟩⟩;by_cases e:j=i;subst e;rw[F]at hy;cases hy;exact hp;exact hJ j y ac hy;rintro i m2 ja b0 hp ⟨rfl,rfl,hJ⟩;have F:l[i]?=some l[i]:=Np b0;rw[F]at hp;exact⟨by rw[aM,FA F hp hJ],Aj _⟩;rintro m2 ja ⟨rfl,rfl,hJ⟩;exact⟨by rw[aM,xB λx F=>by have⟨j,hj⟩:=Pv.1 F;exact hJ j x (Vc.1 hj).1 hj],Aj _⟩
def fX{α:Type}[aQ α](F:rp TE T t α){f:Nat}{fn:Func}(hX:Gk X f)(hf:TE.fn.get f=some fn)(hn:Nat.ble 2 fn.ntmps)
  (hF:∀{W:Words} {x0 x1:Φ} {m:M} {R:Ω->M->Nat->Prop},dC TE W fn [x0,x1] m R=FB T t W x0 x1 m R)
  {m:M} {l:List α} {v:Φ} {g:Fn} {fi ca:Array Φ} (p:α->Bool) (hb:l.length<4611686018427387904) (hl:Sl m l v)
  (hs:∀x∈l,∀cs,aQ.rep m x cs->C X g (fi.toList++([aQ.val α cs]++ca.toList)) m m.n (.bool (p x)) m):
  C X (.func f) [v,.func g fi ca] m m.n (ν (idx p l)) m:=Dl F hX hf hn hF p hb (.inl hl) hs
def aea(F:cy X){m:M}{l:List Pl}{v:Φ}{g:Fn}{fi ca:Array Φ}(p:Pl->Bool)(hb:l.length<4611686018427387904)(hl:Sl m l v)
  (hs:∀x∈l,C X g (fi.toList++([x.v]++ca.toList)) m m.n (.bool (p x)) m):C X (.func 175) [v,.func g fi ca] m m.n (ν (idx p l)) m:=
 fX cR (F.no _ rfl) (Us func175) rfl UM p hb hl λx hx cs hr=>by rw[show cs=x.c from hr];exact hs x hx
def uS(F:cy X){m:M}{l:List Pl}{v:Φ}{g:Fn}{fi ca:Array Φ}(p:Pl->Bool)(hb:l.length<4611686018427387904)(hl:Sl m l v)
  (hs:∀x∈l,C X g (fi.toList++([x.v]++ca.toList)) m m.n (.bool (p x)) m):C X (.func 124) [v,.func g fi ca] m m.n (.bool (l.any p)) m:=by apply Cl.fl F (Us func124);rw[show dC TE (aG TE X) f124 _ m _=_ from F124];dsimp only[aG];apply aw (aea F p hb hl hs);simp only[cZ,ae,lJ,aM];exact⟨trivial,ac⟩
end
variable{p:Pl}
variable{X:aF}{m:M}
def aX{G:(Ω->M->Nat->Prop)->Prop}{k:Ω->M->Nat->Prop}(Q:Ω->M->Nat->Prop)(F:∀R:Ω->M->Nat->Prop,(∀vs m lo,Q vs m lo->R vs m lo)->G R)(h2:∀vs m lo,Q vs m lo->k vs m lo):jn G k:=F k h2
def ug{k:IntKind}{b:Int}:aR TE m .min ts [.int k a,.int k b]=some (.int k (min a b),m):=by show some (Value.int k (if b<a then b else a),m)=_;grind
def AD{k:IntKind}{b:Int}:aR TE m .max ts [.int k a,.int k b]=some (.int k (max a b),m):=by show some (Value.int k (if b >a then b else a),m)=_;grind
def bY(h:m.get b=.cells p.c e g):aC TE m 46 (Ψ b 0)=some p.v:=by rw[qN,aI h (by simp[Pl.c])];rfl
def dZ(a b c:Pl):Int:=(b.x-a.x)*(c.y-a.y)-(b.y-a.y)*(c.x-a.x)
def VQ(x:Int):Int:=IntKind.i64.wrap x
def J6(a b c:Pl):Int:=VQ (VQ (VQ (b.x-a.x)*VQ (c.y-a.y))-VQ (VQ (b.y-a.y)*VQ (c.x-a.x)))
def TF(hX:cy X)(a b c:Pl):C X (.func 81) [a.v,b.v,c.v] m m.n (ν (J6 a b c)) m:=by apply Cl.fl hX (Us func81);rw[F81];dsimp only[aG];refine ah λm1 h0 d0 i0=>?_;refine ah λm2 j0 e0 g0=>?_;refine ah λm3 k0 F b0=>?_;have g1:=(b0 m.n ac).trans ((g0 m.n ac).trans d0);have g2:=(b0 m1.n ac).trans e0;simp only[bd]at g1 g2 F;simp only[ae,an,cx,ag,bN,aT,cO,aK,cZ,cz,aJ,bZ,bB,ptrTo,cH,lF,LU,Nat.reduceAdd,LB,IM,NJ,SU,FU,GI,Br,bd,nJ,lO,jY,nH,nI,lN,cW,eh,bR,aH g1,aH g2,aH F,eZ,kO];exact⟨rfl,Aj _⟩
def Pl.sm(N:Int)(p:Pl):Prop:= -N<=p.x/\p.x<=N/\ -N<=p.y/\p.y<=N
def D9{b N:Int}(ha: -N<=a)(F:a<=N)(hb: -N<=b)(b0:b<=N): -(N*N)<=a*b/\a*b<=N*N:=by have h0:0<=N:=ac;have h1:0<=(N-a)*(N+b):=Sd ac ac;have h2:0<=(N+a)*(N-b):=Sd ac ac;have h3:0<=(N-a)*(N-b):=Sd ac ac;have h4:0<=(N+a)*(N+b):=Sd ac ac;grind
def Gz{a b c:Pl}(F:a.sm 1000000)(hb:b.sm 1000000)(hc:c.sm 1000000):J6 a b c=dZ a b c:=by have⟨a1,a2,a3,a4⟩:=F;have⟨b1,b2,b3,b4⟩:=hb;have⟨c1,c2,c3,c4⟩:=hc;have p:=D9 (a:=b.x-a.x) (b:=c.y-a.y) (N:=2000000) ac ac ac ac;have q:=D9 (a:=b.y-a.y) (b:=c.x-a.x) (N:=2000000) ac ac ac ac;unfold J6 dZ VQ;rw[wrap64 (x:=b.x-a.x) ac ac,wrap64 (x:=c.y-a.y) ac ac,wrap64 (x:=b.y-a.y) ac ac,wrap64 (x:=c.x-a.x) ac ac];rw[wrap64 (x:=(b.x-a.x)*(c.y-a.y)) ac ac,wrap64 (x:=(b.y-a.y)*(c.x-a.x)) ac ac,wrap64]
def Pl.off(p:Pl):Bool:=decide (min p.x p.y < 0) ||decide (40 < max p.x p.y)
def Pl.on(h:p.off=false):0<=p.x/\p.x<=40/\0<=p.y/\p.y<=40:=by simp only[Pl.off,Pz,T8]at h;omega
def Pl.Qp(h:p.off=false):p.sm 1000000:=by have:=Pl.on h;exact⟨ac,ac,ac,ac⟩
def Q1(hX:cy X)(p:Pl):C X (.func 125) [p.v] m m.n (.bool p.off) m:=by apply Cl.fl hX (Us func125);rw[F125];dsimp only[aG];refine ah λm1 b0 F d0=>?_;simp only[bd]at F;refine aX (λvs m2 lo=>vs=[.bool p.off]/\lo=m.n) (λR hR=>?_) ?_;simp only[ae,an,cx,ag,bN,aT,cO,aK,cZ,cz,aJ,bZ,bB,ptrTo,cH,lF,LU,Nat.reduceAdd,LB,IM,NJ,SU,FU,GI,Br,bd,nJ,lO,jY,nH,nI,lN,cW,eh,bR,aH F,ug,AD];refine af (λh=>hR _ _ _ ⟨by simp only[Pl.off,h];rfl,rfl⟩) (λh=>hR _ _ _ ⟨by simp only[Pl.off,h];rfl,rfl⟩);rintro _ m2 _ ⟨rfl,rfl⟩;rw[av];exact⟨rfl,Aj _⟩
def Ms(l:List Pl)(i:Nat):Bool:=match l[i]?,l[(i+1)%l.length]? with
 |some a,some b=>l.zipIdx.all λ(c,k)=>k==i ||k==(i+1)%l.length ||decide (0 < dZ a b c)
 |_,_=>false
def ql(l:List Pl):Bool:=(List.range l.length).all (Ms l)
def bL(l:List Pl):Bool:=decide (3<=l.length) && decide (l.length<=8) && !(l.any Pl.off) && ql l
def dH{l:List Pl}(h:bL l):3<=l.length/\l.length<=8:=by simp only[bL,IG,Mj]at h;grind
def Bd{l:List Pl}(h:bL l):∀p∈l,p.off=false:=by simp only[bL,IG,UC,W5]at h;grind
def mh{l:List Pl}(h:bL l):∀p∈l,p.sm 1000000:=λp F=>Pl.Qp (Bd h p F)
def wz{l:List Pl}{a b:Pl}(F:l[i]?=some a)(hb:l[(i+1)%l.length]?=some b):
  Ms l i↔∀k c,l[k]?=some c->k=i\/k=(i+1)%l.length\/0<dZ a b c:=by unfold Ms;rw[F,hb];simp only[RT];constructor;intro h k c hc;have:=h (c,k) be;grind;grind
def adz{l:List Pl}(h:bL l){i k:Nat}{a b c:Pl}(F:l[i]?=some a)(hb:l[(i+1)%l.length]?=some b)(hc:l[k]?=some c)(h1:k≠i)(h2:k≠(i+1)%l.length):0<dZ a b c:=by simp only[bL,IG,ql,RT,M6]at h;have hr:=h.2 i (Vc.1 F).1;rcases(wz F hb).1 hr k c hc with h|h|h;grind;grind;exact h
def Aq(F:cy X){a b c:Pl}(ha:a.sm 1000000)(hb:b.sm 1000000)(hc:c.sm 1000000):C X (.func 81) [a.v,b.v,c.v] m m.n (ν (dZ a b c)) m:=by rw[<-Gz ha hb hc];exact TF F a b c
theorem _root_.Go.D.Sl.fL{l:List Pl}{v:Φ}(h:Sl m l v){i:Nat}{p:Pl}(hi:l[i]?=some p){k:IntKind}:∃a,aE TE 41 v (.int k i)=some a/\aC TE m 46 a=some p.v:=by have⟨a,cs,h1,F,h3⟩:=h.index cR (k:=k) hi;rw[show cs=p.c from h3]at F;exact⟨a,h1,F⟩
def Ay{a:Nat}(F:b≠0):bE TE .rem t (ν a) (ν b)=some (ν ((a%b:Nat):Int)):=by rw[xS ac];rfl
def mi(hX:cy X){l:List Pl}{v:Φ}(hl:Sl m l v)(hb:l.length<4611686018427387904):C X (.func 78) [v] m m.n (.bool (bL l)) m:=by
 apply Cl.fl hX (Us func78);rw[F78];dsimp only[aG];refine aX (λvs m2 lo=>vs=[.bool (!(decide (3<=l.length) && decide (l.length<=8) && !(l.any Pl.off)))]/\m=m2/\m.n=lo) (λR hR=>?_) ?_;rw[hl.len cR];simp only[ae,an,cx,ag,bN,aT,cO,aK,cZ,cz,aJ,bZ,bB,ptrTo,cH,lF,LU,Nat.reduceAdd,LB,IM,NJ,SU,FU,GI,Br,bd,nJ,lO,jY,nH,nI,lN];refine af (λh=>hR _ _ _ ⟨be,rfl,rfl⟩) (λh=>?_);have h3:3<=l.length:=be;refine af (λh=>hR _ _ _ ⟨be,rfl,rfl⟩) (λh=>?_);have h8:l.length<=8:=be;apply aw (uS hX Pl.off hb hl λx _=>Q1 hX x);exact hR _ _ _ ⟨be,rfl,(Nz _).symm⟩;rintro _ _ _ ⟨rfl,rfl,rfl⟩;rw[av,ag];refine af (λh=>?_) (λh=>?_);refine⟨?_,Aj _⟩;simp only[UC]at h;simp only[aM,bL,h,F7];simp only[UY]at h;simp only[IG,Mj,UC]at h;have⟨⟨h3,h8⟩,b0⟩:=h;have p0:∀p∈l,p.sm 1000000:=λp hp=>Pl.Qp (by rw[W5]at b0;simpa using b0 p hp);have hv:∀r,ql l=r->bL l=r:=λr hr=>(by simp[bL,h3,h8,b0,hr]);rw[hl.len cR,an];refine Lp.intro (γ:=Nat) (λi=>l.length-i) (λi vs m1 lo=>vs=[L4,ν i]/\i<=l.length/\Ext m m1/\m.n<=lo/\∀j,j<i->Ms l j) 0 ⟨rfl,ZX _,.refl,Aj _,λj hj=>ac⟩ ?_;rintro i vs m1 p1 ⟨rfl,hi,hx,P0,h0⟩;simp only[av,aK,ae,ag];refine af (λq0=>?_) (λr1=>?_);have q0:i<l.length:=be;obtain⟨pa,d0⟩:∃p,l[i]?=some p:=⟨_,Np q0⟩;have Q0:(i+1)%l.length<l.length:=Rh _ ac;obtain⟨pb,e0⟩:∃p,l[(i+1)%l.length]?=some p:=⟨_,Np Q0⟩;have⟨q,e1,e2⟩:=(hl.ak hx).fL (k:=.i64) d0;rw[e1,ae,e2,ae];refine ah λm2 u1 a1 b1=>?_;simp only[ptrTo];refine aj fQ a1 rfl rfl rfl λm3 v1 c1 d1=>?_;have u0:Ext m m3:=⟨by have:=hx.n;omega,λb hb=>by have:=hx.n;rw[d1 b ac,b1 b ac,hx.get b hb]⟩;simp only[aL,ae];rw[wrap64,(hl.ak u0).len cR,an];rw[show((i:Int)+1)=((i+1:Nat):Int) by omega,Ay ac,ae,an];refine Lp.intro (γ:=Nat) (λk=>l.length-k) (λk vs m4 r0=>vs=[L4,ν k]/\k<=l.length/\Ext m m4/\m1.n<m4.n/\m4.get m1.n=.cells pa.c 46 none/\m.n<=r0/\∀j c,j<k->l[j]?=some c->j=i\/j=(i+1)%l.length\/0<dZ pa pb c) 0 ⟨rfl,ZX _,u0,ac,c1,by have:=hx.n;omega,λj c hj=>ac⟩ ?_;rintro k vs m4 r0 ⟨rfl,hk,F,w1,y1,y0,i0⟩;simp only[av,aK,ae,ag];refine af (λj0=>?_) (λo1=>?_);have j0:k<l.length:=be;obtain⟨pc,g0⟩:∃p,l[k]?=some p:=⟨_,Np j0⟩;have⟨q,e1,e2⟩:=(hl.ak F).fL (k:=.i64) g0;rw[e1,ae,e2,ae];refine ah λm5 A1 g1 h1=>?_;refine aj fQ g1 rfl rfl rfl λm6 B1 i1 j1=>?_;have A0:Ext m m6:=⟨by have:=F.n;omega,λb hb=>by have:=F.n;rw[j1 b ac,h1 b ac,F.get b hb]⟩;have k0:m6.get m1.n=.cells pa.c 46 none:=be;refine aX (λvs m7 lo=>vs=[.bool (!(k==i ||k==(i+1)%l.length ||decide (0<dZ pa pb pc)))]/\m7=m6/\m.n<=lo) (λR hR=>?_) ?_;simp only[bZ,ae,ag];have l0:m.n<=min r0 m4.n:=(by have:=F.n;omega);refine af (λB0=>?_) (λhe=>?_);have B0:k≠i:=be;refine af (λn0=>?_) (λG1=>?_);have n0:k≠(i+1)%l.length:=be;rw[bY k0,ae];have⟨q,e1,e2⟩:=(hl.ak A0).fL (k:=.i64) e0;rw[e1,ae,e2,ae,bY i1,ae];apply aw (Aq hX (p0 _ (Jc d0)) (p0 _ (Jc e0)) (p0 _ (Jc g0)));simp only[cO,ae];refine hR _ _ _ ⟨?_,rfl,be⟩;have:decide (dZ pa pb pc<=0)= !(decide (0<dZ pa pb pc)):=be;rw[this];simp[B0,n0];refine hR _ _ _ ⟨?_,rfl,l0⟩;have:k=(i+1)%l.length:=(by have h':(k:Int)=(((i+1)%l.length:Nat):Int):=be;omega);simp[this]
 refine hR _ _ _ ⟨?_,rfl,l0⟩;have:k=i:=be;simp[this];rintro _ m7 H1 ⟨rfl,rfl,o0⟩;rw[av,ag];refine af (λO0=>?_) (λs0=>?_);have hc:ql l=false:=(by cases hc:ql l with|false=>rfl|true=>simp only[ql,RT,M6]at hc;have h2:=(wz d0 e0).1 (hc i q0) k pc g0;simp only[UC,Pz,beq_eq_false_iff_ne,T8]at O0;omega);exact⟨by rw[hv false hc];rfl,o0⟩;simp only[aL,ae];rw[wrap64];refine⟨k+1,ac,co,ac,A0,ac,k0,o0,λj c hj hc=>?_⟩;by_cases k1:j<k;exact i0 j c k1 hc;have:j=k:=ac;subst this;rw[g0]at hc;cases hc;simp only[UY,ZG,beq_iff_eq,Mj]at s0;omega;have K1:k=l.length:=(by have:¬(k:Int)< (l.length:Int):=be;omega);refine⟨i+1,ac,co,ac,F,y0,λj hj=>?_⟩;by_cases l1:j<i;exact h0 j l1;have:j=i:=ac;subst this;rw[wz d0 e0];intro q c hq;exact i0 q c be hq;have O1:i=l.length:=(by have:¬(i:Int)< (l.length:Int):=be;omega);have hc:ql l:=RT.2 λj hj=>h0 j be;exact⟨by rw[hv true hc];rfl,P0⟩
def mQ(l:List Pl):List (Ω):=l.mapIdx λi a=> [a.v,match l[(i+1)%l.length]? with |some b=>b.v |none=>undef]
def Sm{l:List Pl}{a b:Pl}(F:l[i]?=some a)(hb:l[(i+1)%l.length]?=some b):(mQ l)[i]?=some [a.v,b.v]:=by unfold mQ;grind
def yY{l:List Pl}{args:Ω}(h:(mQ l)[i]?=some args):∃a b,l[i]?=some a/\l[(i+1)%l.length]?=some b/\args=[a.v,b.v]:=by unfold mQ at h;rw[List.getElem?_mapIdx,ZL]at h;have⟨a,F,h⟩:=h;have b0:=(Vc.1 F).1;obtain⟨b,hb⟩:∃b,l[(i+1)%l.length]?=some b:=⟨_,Np (Rh _ ac)⟩;grind
def ur{l:List Pl}:(mQ l).length=l.length:=by unfold mQ;rw[List.length_mapIdx]
def yZ(hX:cy X){l:List Pl}{v:Φ}{b:Nat}(hlen:l.length<4611686018427387904):
  Z5 TE X (.ob λ_=>False) (.func 127) [] [ptrTo b] (mQ l) (λm=>m.get b=.cells [v] 41 none/\Sl m l v):=by intro y n0 B I J m hD hI hJ hy p0 hB d0 h0;refine Cl.gen (R:=λv m2 b=>B<=b/\(I (mQ l).length m2\/J m2)) (hX.no _ rfl) (Us func127) rfl ?_;rw[show([]:Ω)++ .func (.yield y) #[] #[]::[ptrTo b]=[.func (.yield y) #[] #[],ptrTo b]from rfl,F127];dsimp only[aG];have ld:∀m1:M,m1.get b=.cells [v] 41 none->aC TE m1 41 (Ψ b 0)=some v:=λm1 h=>(by rw[qP,aH h];rfl);simp only[ptrTo];rw[ld m (hD _ _ h0).1,ae,(hD _ _ h0).2.len cR,an];refine Lp.intro (γ:=Nat) (λi=>l.length-i) (λi vs m1 lo=>vs=[ν i]/\i<=l.length/\I i m1/\n0<=m1.n/\B<=lo/\((i=0/\m1=m/\lo=m.n)\/lo<m.n)) 0 ⟨rfl,ZX _,h0,p0,ac,.inl ⟨rfl,rfl,rfl⟩⟩ ?_;rintro i vs m1 P0 ⟨rfl,hi,e0,Q0,a1,F⟩;simp only[av,aK,ae,ag];refine af (λg0=>?_) (λb1=>?_);have g0:i<l.length:=be;obtain⟨pa,i0⟩:∃p,l[i]?=some p:=⟨_,Np g0⟩;have q0:(i+1)%l.length<l.length:=Rh _ ac;obtain⟨pb,j0⟩:∃p,l[(i+1)%l.length]?=some p:=⟨_,Np q0⟩;obtain⟨q,e1,e2⟩:=(hD _ _ e0).2.fL (k:=.i64) i0;rw[e1,ae,e2,ae];refine ah λm2 c1 r0 d1=>?_;refine aj fQ r0 rfl rfl rfl λm3 g1 s0 i1=>?_;have u0:Ext m1 m3:=⟨ac,be⟩;have k0:=hI _ _ _ e0 u0;obtain⟨y0,l0⟩:=hD _ _ k0;rw[bY s0,ae,ld m3 y0,ae];simp only[aL,ae];rw[wrap64,l0.len cR,an];rw[show((i:Int)+1)=((i+1:Nat):Int) by omega,Ay ac,ae];have⟨q,e1,e2⟩:=l0.fL (k:=.i64) j0;rw[e1,ae,e2,ae,cx];obtain⟨v2,m4,b4,hc,j1,k1,l1,o0⟩:=d0 i [pa.v,pb.v] m3 ac (Sm i0 j0) k0;apply aw hc;have o1:m3.n<=m4.n:=hc.1;rcases o0 with⟨rfl,A0⟩|⟨rfl,B0⟩;simp only[bB,ae,ag,T9,aT];exact⟨i+1,ac,rfl,ac,A0,ac,ac,.inr ac⟩;simp only[bB,ae,ag,F5,bN];exact .inr ⟨.inr ac,ac,.inr B0⟩;have O0:i=l.length:=(by have:¬(i:Int)< (l.length:Int):=be;omega);have b0:I (mQ l).length m1:=(by rw[ur,<-O0];exact e0);rcases F with⟨h1,h2,h3⟩|F;rw[h2]at b0;exact .inl ⟨rfl,ac,ac,.inl b0⟩;exact .inr ⟨.inr F,ac,.inl b0⟩
def CD(hX:cy X){v:Φ}(hv:cells v=[v]):∃m',C X (.func 80) [v] m m.n (.func (.func 127) #[] #[ptrTo m.n]) m'/\Ext m m'/\m'.n=m.n+1/\m'.get m.n=.cells [v] 41 none:=by obtain⟨v',m',b,hc,rfl,rfl,h⟩:=Cl.heap (R:=λw m' b=>w=.func (.func 127) #[] #[ptrTo m.n]/\b=m.n/\Ext m m'/\m'.n=m.n+1/\m'.get m.n=.cells [v] 41 none) (hX.no _ rfl) (Us func80) rfl (m:=m) (args:=[v]) (by rw[F80];dsimp only[aG];refine ah λm1 hn F hk=>?_;rw[hv]at F;exact⟨.inl rfl,rfl,ac,⟨ac,λb hb=>hk b hb⟩,hn,F⟩);exact⟨m',hc,h⟩
def dv(a b:Int):Int:=if a < b then -1 else if b < a then 1 else 0
def Hs(F:cy X)(a:Int):C X (.func 141) [ν a] m m.n L4 m:=by apply Cl.fl F (Us func141);rw[F141];dsimp only[aG];simp only[bZ,ae];exact⟨by simp[aM],Aj _⟩
def gC(F:cy X)(a b:Int):C X (.func 92) [ν a,ν b] m m.n (ν (dv a b)) m:=by apply Cl.fl F (Us func92);rw[F92];dsimp only[aG];refine aw (Hs F a) (aw (Hs F b) ?_);simp only[ag,aT,aK,cz,ae];refine af (λh=>?_) (λh=>?_);have:a<b:=be;exact⟨by simp[aM,dv,this],ac⟩;have h1:¬a<b:=be;refine af (λh=>?_) (λh=>?_);have h2:b<a:=be;exact⟨by simp[aM,dv,h1,h2],ac⟩;have h2:¬b<a:=be;exact⟨by simp[aM,dv,h1,h2],ac⟩
def jb(l:List Pl)(p:Pl):Nat->Int
 |0=>4611686018427387903
 |i+1=>match l[i]?,l[(i+1)%l.length]? with
  |some a,some b=>min (jb l p i) (dZ a b p)
  |_,_=>jb l p i
def GL(l:List Pl)(p:Pl):Int:=dv (jb l p l.length) 0
def tn:aO TE m 41 0 []=some (.slice (some ⟨m.n,0,none⟩) 0 0,m.push (.cells [] 46 none)):=bv
def qX(hX:cy X){l:List Pl}{v:Φ}(hl:Sl m l v)(F:l≠ [])(hs:l.length<=1000000):
  ∃v' m',C X (.func 53) [v] m m.n v' m'/\Ow m.n m' l v'/\Ext m m':=by have key:=Cl.heap (E:=TE) (X:=X) (f:=53) (args:=[v]) (m:=m) (R:=λv' m' b=>b=m.n/\Ow m.n m' l v'/\Ext m m') (hX.no _ rfl) (Us func53) rfl ?_;obtain⟨v',m',b,hc,rfl,h3⟩:=key;exact⟨v',m',hc,h3⟩;rw[F53];dsimp only[aG];have b0:bE TE .eql 41 v LF=some L4:=(by rcases hl with⟨_,rfl⟩|⟨b,o,c,bc,g,rfl,_⟩;exact absurd rfl F;simp only[bE,eq?,uD,ai.t41,Br]);rw[b0];simp only[ae,ag,aT];rw[tn,an];have d0:Ext m (m.push (.cells [] 46 none)):=Ext.refl.push;have⟨v',m1,e1,e0,he,g0⟩:=mF (m:=m.push (.cells [] 46 none)) zi (b:=m.n) M.aU (hl.ak d0) F hs;rw[e1,an];have h0:=e0.flat F;rw[M.lC]at g0;exact⟨.inl h0,ac,e0.mono (by rw[M.lC];omega),d0.trans he⟩
def AA(l:List Pl):Ω:=l.flatMap Pl.c
theorem sg{l:List Pl}:AA (p::l)=ν p.x::ν p.y::AA l:=rfl
theorem wH:∀l:List Pl,(AA l).length=l.length*2
 |[]=>rfl
 |p::l=>by rw[sg,Vz,Vz,wH l,Vz];omega
theorem VY:∀{l:List Pl} {i:Nat} {p:Pl},l[i]?=some p->(AA l)[i*2]?=some (ν p.x)
 |q::l,0,p,h=>by cases h;rfl
 |q::l,i+1,p,h=>by rw[sg,show(i+1)*2=i*2+1+1 by omega,IM,IM];exact VY be
theorem VX:∀{l:List Pl} {i:Nat} {p:Pl},l[i]?=some p->(AA l)[i*2+1]?=some (ν p.y)
 |q::l,0,p,h=>by cases h;rfl
 |q::l,i+1,p,h=>by rw[sg,show(i+1)*2+1=i*2+1+1+1 by omega,IM,IM];exact VX be
theorem GV:∀{l:List Pl} {i:Nat} {p:Pl} (x:Int),l[i]?=some p->(AA l).set (i*2) (ν x)=AA (l.set i ⟨x,p.y⟩)
 |q::l,0,p,x,h=>by cases h;rfl
 |q::l,i+1,p,x,h=>by rw[sg,show(i+1)*2=i*2+1+1 by omega,Nd,Nd,GV x (by simpa using h),Nd,sg]
def D3{l:List Pl}(h:l[i]?=some p):chunk (AA l) 2 i=p.c:=by have F:=VY h;have hy:=VX h;have hl:=wH l;have hi:=(Vc.1 h).1;unfold chunk;refine Zk λk=>?_;match k with|0=>rw[TP ac,Ns,MU];exact F|1=>rw[TP ac,Ns];exact hy|k+2=>rw[SI be];rfl
def PB{l:List Pl}{c:Nat}(h:m.get b=.cells (AA l) 46 g):Sl m l (RR b 0 l.length c):=
 .inr ⟨b,0,c,AA l,g,rfl,h,by rw[wH];show 0+l.length*2<=_;omega,λi x hi=>by rw[LU];exact D3 hi⟩
def Xq{n c:Nat}{k:IntKind}(hi:i<n):aE TE 41 (RR b 0 n c) (.int k i)=some (Ψ b (i*2)):=by have F:0<=(i:Int)/\(i:Int)< (n:Int)/\0<ai.t41.es:=⟨ac,ac,ce⟩;have hd:ai.t41.d=.slice 46:=rfl;simp only[aE,uD,hd];rw[QL F,bs rfl,LU];rfl
def pS{cs:Ω}{x:Φ}(h:i<cs.length):cs.take i++([x]++cs.drop (i+1))=cs.set i x:=by rw[List.set_eq_take_append_cons_drop,QL h];rfl
def Pl.dbl(p:Pl):Pl:=⟨2*p.x,2*p.y⟩
def mixed(l:List Pl)(i:Nat):List Pl:=(l.take i).map Pl.dbl++l.drop i
structure Un where
 id:Int
 kind:Int
 cD:Int
 shape:List Pl
 back:Int
 front:Int
abbrev Un.c(u:Un)(w:Φ):Ω:=[.int .i64 u.id,.int .i64 u.kind,.int .i64 u.cD,w,.int .i64 u.back,.int .i64 u.front]
instance:aQ Un where
 ty:=43
 sz:=6
 agg:=true
 dU:=[46]
 rep m u cs:=∃w,cs=u.c w/\Sl m u.shape w
 pos:=ce
 one:=be
 len:=dg
 iL:=by rintro _ _ _ ⟨w,rfl,h⟩;show(true && (true && (true && (one w && (true && (true && true))))))=true;rw[h.one];rfl
 aY:=by
  rintro m m' u cs ⟨w,rfl,h⟩ hk
  exact⟨w,rfl,h.aY λb c t g hb ht=>hk b c t g hb (by simpa[aQ.ty,aQ.dU]using ht)⟩
abbrev Un.v(u:Un)(w:Φ):Φ:=.agg (u.c w).toArray
abbrev Un.zc:Ω:=[.int .i64 0,.int .i64 0,.int .i64 0,.slice none 0 0,.int .i64 0,.int .i64 0]
def bQ{u:Un}{w:Φ}(h:m.get b=.cells (u.c w) e g):aC TE m 43 (Ψ b 0)=some (u.v w):=by rw[qO,aI h co];rfl
def Un.dt{u:Un}{w:Φ}(hw:one w):(u.c w).all one:=by show(true && (true && (true && (one w && (true && (true && true))))))=true;rw[hw];rfl
def NT(m:M)(o:Option Un)(v:Φ):Prop:=match o with |some u=>∃w,v=u.v w/\Sl m u.shape w |none=>v=.agg Un.zc.toArray
def Ub:aO TE m 116 1 [(0,.int .i64 n)]=some (.slice (some ⟨m.n,0,none⟩) 1 1,m.push (.cells [.int .i64 n] 3 none)):=bv
def aax(h:m.get b=.cells [ν n] 3 g):Sl m [n] (RR b 0 1 1):=
 .inr ⟨b,0,1,_,g,rfl,h,Aj _,λi x hi=>by match i with|0=>cases hi;rfl|i+1=>cases hi⟩
def gL(c n:Int):Int:=if c < 0 then(-(c+1))%n else c%n
def sj{c:Int}(F:0<n):0<=gL c n/\gL c n<n:=by unfold gL;split;exact⟨Int.emod_nonneg _ ac,OU _ F⟩;exact⟨Int.emod_nonneg _ ac,OU _ F⟩
def pI(c:Int):Prop:= -9223372036854775808<=c/\c < 9223372036854775808
def tS{c:Int}(hc:pI c)(hn:0<n){P:Φ->Prop}(h:P (ν (gL c n))):
  aS (bE TE .lss 3 (ν c) (ν 0)) λv1=>iU v1 (aS (bE TE .add 3 (ν c) (ν 1)) λv2=>aS (C9 .neg v2) λv3=>aS (bE TE .rem 3 v3 (ν n)) λv4=>P v4) (aS (bE TE .rem 3 (ν c) (ν n)) λv5=>P v5):=by have⟨h1,h2⟩:=hc;simp only[aK,ae,ag];refine af (λF=>?_) (λF=>?_);have F:c<0:=be;simp only[aL,ae];rw[wrap64,EM,ae,wrap64,xS ac,ae];have:gL c n=(0-(c+1)).tmod n:=(by unfold gL;grind);grind;have F:¬c<0:=be;rw[xS ac,ae];have:gL c n=c.tmod n:=(by unfold gL;grind);grind
def di(n lo hi:Int):Bool:=decide (lo<=n) && decide (n<=hi)
section
open Go Go.D Go.ChangeShapes Go.Proofs.Tryz
def jl(c:Array Φ):Ω:=c.toList.map λv=>bif bO v then v else undef
def Qv:Option Obj->Ob
 |some (.cells c _ _)=> .ro (jl c)
 |_=> .dead
def Xc(W:World):Nat->M
 |0=>{st:=.e,n:=0,low:=0}
 |k+1=>(Xc W k).push (Qv W.heap[k]?)
theorem KC(W:World):∀k,(Xc W k).n=k
 |0=>rfl
 |k+1=>by show(Xc W k).n+1=k+1;rw[KC W k]
theorem KD(W:World):∀k b,b<k->(Xc W k).get b=Qv W.heap[b]?
 |k+1,b,h=>by show((Xc W k).push (Qv W.heap[k]?)).get b=_;by_cases F:b=k;subst F;have:=M.aU (m:=Xc W b) (o:=Qv W.heap[b]?);rw[KC]at this;grind;rw[M.cI (by rw[KC];omega)];exact KD W k b ac
def fF(W:World):M:=(Xc W W.heap.size).wl W.heap.size
def DQ(W:World):(fF W).n=W.heap.size:=KC W _
def rV(W:World){b:Nat}(h:b<W.heap.size):(fF W).get b=Qv W.heap[b]?:=KD W _ b h
def zW(W:World):Sg:=λb=>if b < W.heap.size then some ⟨b,none⟩else none
def nu{W:World}{i:BI}(h:zW W b=some i):b<W.heap.size/\i=⟨b,none⟩:=by unfold zW at h;grind
def GK{W:World}(hW:9<W.heap.size):eW Tryz.prog (zW W) (fF W) W:=by refine⟨λb i F=>?_,λb i F=>?_,λb i F=>?_,λb b' i i' F d0 _ _ he=>?_,λg hg=>?_⟩;rw[DQ];exact(nu F).1;obtain⟨h,rfl⟩:=nu F;rw[rV W h];(cases ho:W.heap[b]? with|none=>trivial|some o=>cases o with|cells c e fz=>refine⟨rfl,c,e,fz,ho,by simp[jl],λj u u' hu g0 h1=>?_⟩;have b0:(jl c)[j]?=some (bif bO u' then u' else undef):=(by unfold jl;grind);rw[hu]at b0;simp only[RQ]at b0;subst b0;(cases hf:bO u' with|true=>exact .flat _ hf|false=>rw[hf]at h1;cases h1)|_=>trivial);obtain⟨h,rfl⟩:=nu F;exact h;obtain⟨_,rfl⟩:=nu F;obtain⟨_,rfl⟩:=nu d0;exact he;have e0:Tryz.prog.globals.size=10:=bv;rw[e0]at hg;unfold zW;grind
theorem sS{α:Type}{Q:Nat->α->Prop}:∀n,(∀i,i<n->∃y,Q i y)->∃l:List α,l.length=n/\∀i y,l[i]?=some y->Q i y
 |0,_=>⟨[],rfl,be⟩
 |n+1,h=>by obtain⟨l,F,hq⟩:=sS n λi hi=>h i ac;obtain⟨y,hy⟩:=h n ac;refine⟨l++ [y],be,λi z hz=>?_⟩;grind
section
variable {H:Type} {enc:TypeId×Φ->H} {W:World} {sp:Nat->Bool} {held:Bool} {base:Nat}
set_option maxRecDepth 10000 in
theorem EY{α:Type}[aQ α]{Py:α->Prop}{v:Φ}{fuel:Nat}{x:DataW H×List MemPlace}(ht:Tryz.prog.underlying t=some (.slice e))(l0:Tryz.prog.cellsOf e=aQ.sz α)
  (n0:∀fuel cs x,DataW.trod enc Tryz.prog W 0 sp held fuel e cs=some x->∃y:α,Py y/\(∀m,aQ.rep m y cs)/\∀u∈cs,bO u=true)
  (g0:Cell.okWide Tryz.prog W .any base t v) (h:DataW.trod enc Tryz.prog W 0 sp held fuel t [v]=some x):
  bw (zW W) v v/\∃l:List α,Lv (fF W) l v/\l.length < 9223372036854775808/\∀y∈l,Py y:=by rcases DataW.trod_slice ht h with⟨hv,_⟩ |⟨a,len,cap,elems,rest,n,rfl,hv,rfl,hb,hl,hm,hlen,h0,_,_⟩;simp only[List.cons.injEq,and_true]at hv;subst hv;exact⟨.flat _ rfl,[],.inl ⟨rfl,rfl⟩,co,λy hy=>by cases hy⟩;simp only[List.cons.injEq,and_true]at hv;subst hv;simp only[Cell.okWide,Cell.ok,ht]at g0;have⟨_,_,_,b0,row,cells,F,_⟩:=g0;have⟨dM,off,A0⟩:=a;dsimp only at b0 F hb;subst b0;unfold World.shape? at F;cases ho:W.heap[dM]? with|none=>rw[ho]at F;cases F|some o=>rw[ho]at F;cases o with|cells c e' fz=>have i0:dM < W.heap.size:=(Dr.1 ho).1;have o0:zW W dM=some ⟨dM,none⟩:=(by unfold zW;rw[QL i0]);refine⟨.slice ⟨dM,off,none⟩ ⟨dM,none⟩ len cap o0 rfl rfl,?_⟩;have y0:=aQ.pos (α:=α);obtain⟨l,p0,hq⟩:=sS (Q:=λi (y:α)=>Py y/\off+i*aQ.sz α+aQ.sz α<=(jl c).length/\aQ.rep (fF W) y (((jl c).drop (off+i*aQ.sz α)).take (aQ.sz α))) len λi hi=>(by have he:=h0 i hi;rw[vW]at he;have⟨e0,q0,r0⟩:=UO.1 he;obtain⟨y,hy,j0,s0⟩:=n0 _ _ _ r0;obtain⟨_,u0,k0⟩:=World.cells?_some q0;rw[l0]at u0 k0;have d0:∀j,j < aQ.sz α->c[off+i*aQ.sz α+j]?=e0[j]?:=λj hj=>(by have:=k0 j hj;rw[D.eT,D.eT]at this;rw[<-this];simp only[World.cell?,ho];rfl);have hbound:off+i*aQ.sz α+aQ.sz α<=(jl c).length:=(by have:=d0 (aQ.sz α-1) ac;rw[vW]at this;have:=(Dr.1 this).1;unfold jl;rw[MB,WG];omega);refine⟨y,hy,hbound,?_⟩;have:((jl c).drop (off+i*aQ.sz α)).take (aQ.sz α)=e0:=(by apply Zk;intro j;by_cases hj:j < aQ.sz α;rw[TP hj,Ns];unfold jl;rw[U2,vO,d0 j hj];(cases hu:e0[j]? with|none=>rfl|some u=>rw[Br,s0 u (Jc hu)];rfl);rw[SI (by rw[PK];omega),SI ac]);rw[this];exact j0 _);refine⟨l,.inr ⟨dM,off,cap,jl c,by rw[p0],?_,λi y hi=>⟨(hq i y hi).2.1,(hq i y hi).2.2⟩⟩,?_,λy hy=>?_⟩;rw[rV W i0,ho];rfl;have:maxLen < 9223372036854775808:=(by unfold maxLen;decide);omega;have⟨i,hi⟩:=Pv.1 hy;exact(hq i y hi).1|_=>cases F
def KY{t:TypeId}{n:Nat}{cs:Ω}{fuel:Nat}{x:DataW H×List MemPlace}(ht:Tryz.prog.underlying t=some (.array n 3))(F:Tryz.prog.cellsOf t=n)
  (h:DataW.trod enc Tryz.prog W 0 sp held fuel t cs=some x):∃l:List Int,cs=l.map (.int .i64)/\l.length=n/\∀z∈l,pI z:=by obtain⟨xs,m,rfl,rfl,b0,i0,d0⟩:=DataW.trod_array ht h;rw[F]at b0;have h3:Tryz.prog.underlying 3=some (.int .i64):=bv;have e0:Tryz.prog.cellsOf 3=1:=bv;obtain⟨l,hl,hq⟩:=sS (Q:=λi (z:Int)=>cs[i]?=some (ν z)/\pI z) n λi hi=>(by have:=d0 i hi;rw[e0,vW]at this;obtain⟨z,hz,_,g0⟩:=DataW.trod_int h3 this;refine⟨z,?_,?_⟩;have:=congrArg (λq:Ω=>q[0]?) hz;grind;have h0:IntKind.i64.min= -9223372036854775808/\IntKind.i64.max=9223372036854775807:=⟨ce,ce⟩;simp only[Lit.wf,IG,Mj,h0]at g0;unfold pI;omega);refine⟨l,?_,hl,λz hz=>?_⟩;apply Zk;grind;have⟨i,hi⟩:=Pv.1 hz;grind
end
end
section
open Go Go.D Go.ChangeShapes Go.Proofs.Tryz
def Ot:Tryz.prog.underlying 3=some (.int .i64):=bv
def Wx:Tryz.prog.underlying 4=some .bool:=bv
def Ws{k:Int}(h:(Lit.int .i64 k).wf):pI k:=by have F:IntKind.i64.min= -9223372036854775808/\IntKind.i64.max=9223372036854775807:=⟨ce,ce⟩;simp only[Lit.wf,IG,Mj,F]at h;unfold pI;omega
section
variable {H:Type} {enc:TypeId×Φ->H} {W:World} {sp:Nat->Bool} {held:Bool} {base:Nat}
theorem Jh{v:Φ}{d:DataW H}{ps:List MemPlace}(F:Value.okWide Tryz.prog W .any base 3 v)(h:DataW.Trod enc Tryz.prog W 0 sp held 3 v d ps):
  bw (zW W) v v/\∃z,v=ν z/\pI z:=by have⟨fuel,h⟩:=h;obtain⟨z,hz,_,b0⟩:=DataW.trod_int Ot h;have hv:v=ν z:=(by simp only[Value.okWide,Ot]at F;cases v with|agg cs=>exfalso;revert F;simp[Cell.okWide,Cell.ok,Ot]|int k n=>simpa[Value.cells]using hz|_=>simp[Value.cells]at hz);subst hv;exact⟨bw.mu rfl,z,rfl,Ws b0⟩
end
def HQ{X:aF}(hX:cP Tryz.prog X){W:World}(hW:9<W.heap.size){f:Nat}{args:Ω}{args':Array Φ}{m':M}{b:Bool}(h:C X (.func f) args (fF W) (fF W).n (.bool b) m')(hl:bK (zW W) args args'.toList):
  Calls Tryz.prog f args' W λe W'=>e=.returned (.bool b)/\Go.RowKit.Below W.heap.size W W':=by have⟨hn,_,n0,hc⟩:=h;have h1:=hc n0 (Aj _) (fF W).n (Aj _);have b0:eW Tryz.prog (zW W) ((fF W).wl (fF W).n) W:=(by have:=GK hW;exact⟨this.uP,this.obj,this.lt,this.inj,this.mK⟩);refine(xO ai.ok hX h1 b0 hl).mono λe w' he=>?_;obtain⟨v',e0,rfl,hv,F⟩:=he;have d0:=hv.bJ rfl;subst d0;refine⟨rfl,F.os,F.tape,F.output,F.hle,λB hB=>F.heap B hB λb i hb hi=>?_⟩;have:=(nu hb).1;show b<min (fF W).n (fF W).n;rw[DQ];omega
end
section
open Go.ChangeShapes Go.WideShapes Go.ChangeAt Go.RowKit
def yN(os:Os):World:=World.laidAll Tryz.prog os Rows.worksSuitsRow.laid
def QW{os:Os}:(World.holding Tryz.prog os ⟨#[], #[],[]⟩).layFits Tryz.prog Rows.worksSuitsRow.laid []=true:=bv
def acM{os:Os}:(World.holding Tryz.prog os ⟨#[], #[],[]⟩).layIfaces Tryz.prog Rows.worksSuitsRow.laid (World.laidAll Tryz.prog os Rows.worksSuitsRow.laid)=true:=bv
