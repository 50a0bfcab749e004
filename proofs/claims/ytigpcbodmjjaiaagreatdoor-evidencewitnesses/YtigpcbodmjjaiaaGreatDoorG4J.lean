/- What the words of the formulas .. -/
import Derived.Test.YtigpcbodmjjaiaaGreatDoorTabJ
import Derived.Test.YtigpcbodmjjaiaaGreatDoorG2J
import Derived.OpenShut
import Derived.Test.YtigpcbodmjjaiaaGreatDoorTie
import Derived.ProofKit
import Derived.Lib.LaidTab
set_option maxRecDepth 100000
noncomputable section
open Go Go.D Go.Proofs.Tryz
namespace Go.Proofs.YtigpcbodmjjaiaaGreatDoor
section
theorem aX{l:aeN}(h:l.length=1):∃y0,l=[y0]:=by
 match l,h with
 |[y0],_=>exact⟨y0,rfl⟩
theorem rq{l:aeN}(h:l.length=2):∃y0 y1,l=[y0,y1]:=by
 match l,h with
 |[y0,y1],_=>exact⟨y0,y1,rfl⟩
theorem rp{l:aeN}(h:l.length=5):∃y0 y1 y2 y3 y4,l=[y0,y1,y2,y3,y4]:=by
 match l,h with
 |[y0,y1,y2,y3,y4],_=>exact⟨y0,y1,y2,y3,y4,rfl⟩
theorem rn{l:aeN}(h:l.length=6):∃y0 y1 y2 y3 y4 y5,l=[y0,y1,y2,y3,y4,y5]:=by
 match l,h with
 |[y0,y1,y2,y3,y4,y5],_=>exact⟨y0,y1,y2,y3,y4,y5,rfl⟩
theorem wX{x0 x1 x2:aeM}(h0:(cells x0).length=1)(h1:(cells x1).length=1)(h2:(cells x2).length=1):aJ TE 109 [(0,x0),(1,x1),(2,x2)]=some (.agg (cells x0++(cells x1++(cells x2))).toArray):=by have⟨a0,e0⟩:=aX h0;have⟨b0,e1⟩:=aX h1;have⟨d0,e2⟩:=aX h2;simp only[aJ,show TE.ty.get 109=some ag.t109 by kernel_rfl,ag.t109,fill,aT,aa8,aa7,abr,abI,abi,e0,e1,e2];rfl
theorem EN{x0:aeM}(h0:(cells x0).length=6):aJ TE 113 [(0,x0)]=some (.agg (cells x0++(([aeQ]:aeN))).toArray):=by have⟨a0,b0,d0,g0,i0,j0,e0⟩:=rn h0;simp only[aJ,show TE.ty.get 113=some ag.t113 by kernel_rfl,ag.t113,fill,aT,aa8,aa7,abr,abI,abi,e0];rfl
theorem GP:aJ TE 137 []=some (.agg (([.int .i64 0]:aeN)++(([.int .i64 0]:aeN)++(([.int .i64 0]:aeN)++(([.int .i64 0]:aeN)++(([aeS]:aeN)))))).toArray):=by kernel_rfl
theorem mE{x0 x1:aeM}(h0:(cells x0).length=1)(h1:(cells x1).length=1):aJ TE 141 [(0,x0),(1,x1)]=some (.agg (cells x0++(cells x1)).toArray):=by have⟨a0,e0⟩:=aX h0;have⟨b0,e1⟩:=aX h1;simp only[aJ,show TE.ty.get 141=some ag.t141 by kernel_rfl,ag.t141,fill,aT,aa8,aa7,abr,abI,abi,e0,e1];rfl
theorem Ad{x0 x1:aeM}(h0:(cells x0).length=1)(h1:(cells x1).length=6):aJ TE 184 [(0,x0),(1,x1)]=some (.agg (cells x0++(cells x1++(([aeP 0]:aeN)++(([aeP 0]:aeN)++(([aeP 0]:aeN)++(([aeP 0,aeP 0,aeP 0,aeP 0,aeS]:aeN))))))).toArray):=by have⟨a0,e0⟩:=aX h0;have⟨b0,d0,g0,i0,j0,k0,e1⟩:=rn h1;simp only[aJ,show TE.ty.get 184=some ag.t184 by kernel_rfl,ag.t184,fill,aT,aa8,aa7,abr,abI,abi,e0,e1];rfl
theorem Ab{x0 x1:aeM}(h0:(cells x0).length=1)(h1:(cells x1).length=1):aJ TE 184 [(0,x0),(2,x1)]=some (.agg (cells x0++(([aeP 0,aeP 0,aeP 0,aeQ,aeP 0,aeP 0]:aeN)++(cells x1++(([aeP 0]:aeN)++(([aeP 0]:aeN)++(([aeP 0,aeP 0,aeP 0,aeP 0,aeS]:aeN))))))).toArray):=by have⟨a0,e0⟩:=aX h0;have⟨b0,e1⟩:=aX h1;simp only[aJ,show TE.ty.get 184=some ag.t184 by kernel_rfl,ag.t184,fill,aT,aa8,aa7,abr,abI,abi,e0,e1];rfl
theorem Aa{x0 x1:aeM}(h0:(cells x0).length=1)(h1:(cells x1).length=5):aJ TE 184 [(0,x0),(5,x1)]=some (.agg (cells x0++(([aeP 0,aeP 0,aeP 0,aeQ,aeP 0,aeP 0]:aeN)++(([aeP 0]:aeN)++(([aeP 0]:aeN)++(([aeP 0]:aeN)++(cells x1)))))).toArray):=by have⟨a0,e0⟩:=aX h0;have⟨b0,d0,g0,i0,j0,e1⟩:=rp h1;simp only[aJ,show TE.ty.get 184=some ag.t184 by kernel_rfl,ag.t184,fill,aT,aa8,aa7,abr,abI,abi,e0,e1];rfl
theorem Bn:aJ TE 30 []=some (.agg (([aeQ]:aeN)).toArray):=by kernel_rfl
theorem zt{x0:aeM}(h0:(cells x0).length=1):aJ TE 30 [(0,x0)]=some (.agg (cells x0).toArray):=by have⟨a0,e0⟩:=aX h0;simp only[aJ,show TE.ty.get 30=some ag.t30 by kernel_rfl,ag.t30,fill,aT,aa8,aa7,abr,abI,abi,e0];rfl
theorem qK:aJ TE 33 []=some (.agg (([aeQ]:aeN)++(([aeQ]:aeN))).toArray):=by kernel_rfl
theorem zs{x0:aeM}(h0:(cells x0).length=1):aJ TE 33 [(0,x0)]=some (.agg (cells x0++(([aeQ]:aeN))).toArray):=by have⟨a0,e0⟩:=aX h0;simp only[aJ,show TE.ty.get 33=some ag.t33 by kernel_rfl,ag.t33,fill,aT,aa8,aa7,abr,abI,abi,e0];rfl
theorem nY{x0 x1:aeM}(h0:(cells x0).length=1)(h1:(cells x1).length=1):aJ TE 33 [(0,x0),(1,x1)]=some (.agg (cells x0++(cells x1)).toArray):=by have⟨a0,e0⟩:=aX h0;have⟨b0,e1⟩:=aX h1;simp only[aJ,show TE.ty.get 33=some ag.t33 by kernel_rfl,ag.t33,fill,aT,aa8,aa7,abr,abI,abi,e0,e1];rfl
theorem GO{x0:aeM}(h0:(cells x0).length=1):aJ TE 33 [(1,x0)]=some (.agg (([aeQ]:aeN)++(cells x0)).toArray):=by have⟨a0,e0⟩:=aX h0;simp only[aJ,show TE.ty.get 33=some ag.t33 by kernel_rfl,ag.t33,fill,aT,aa8,aa7,abr,abI,abi,e0];rfl
theorem wW{x0 x1 x2:aeM}(h0:(cells x0).length=1)(h1:(cells x1).length=1)(h2:(cells x2).length=1):aJ TE 341 [(0,x0),(1,x1),(2,x2)]=some (.agg (cells x0++(cells x1++(cells x2))).toArray):=by have⟨a0,e0⟩:=aX h0;have⟨b0,e1⟩:=aX h1;have⟨d0,e2⟩:=aX h2;simp only[aJ,show TE.ty.get 341=some ag.t341 by kernel_rfl,ag.t341,fill,aT,aa8,aa7,abr,abI,abi,e0,e1,e2];rfl
theorem wV{x0 x1 x2:aeM}(h0:(cells x0).length=1)(h1:(cells x1).length=1)(h2:(cells x2).length=1):aJ TE 343 [(0,x0),(1,x1),(2,x2)]=some (.agg (cells x0++(cells x1++(cells x2))).toArray):=by have⟨a0,e0⟩:=aX h0;have⟨b0,e1⟩:=aX h1;have⟨d0,e2⟩:=aX h2;simp only[aJ,show TE.ty.get 343=some ag.t343 by kernel_rfl,ag.t343,fill,aT,aa8,aa7,abr,abI,abi,e0,e1,e2];rfl
theorem Lj:aJ TE 38 []=some (.agg (([aeQ,aeQ]:aeN)++(([aeQ]:aeN)++(([aeQ]:aeN)++(([aeQ]:aeN))))).toArray):=by kernel_rfl
theorem GN{x0:aeM}(h0:(cells x0).length=2):aJ TE 38 [(0,x0)]=some (.agg (cells x0++(([aeQ]:aeN)++(([aeQ]:aeN)++(([aeQ]:aeN))))).toArray):=by have⟨a0,b0,e0⟩:=rq h0;simp only[aJ,show TE.ty.get 38=some ag.t38 by kernel_rfl,ag.t38,fill,aT,aa8,aa7,abr,abI,abi,e0];rfl
theorem zr{x0 x1 x2:aeM}(h0:(cells x0).length=5)(h1:(cells x1).length=1)(h2:(cells x2).length=1):aJ TE 43 [(0,x0),(1,x1),(3,x2)]=some (.agg (cells x0++(cells x1++(([aeQ]:aeN)++(cells x2)))).toArray):=by have⟨a0,b0,d0,g0,i0,e0⟩:=rp h0;have⟨j0,e1⟩:=aX h1;have⟨k0,e2⟩:=aX h2;simp only[aJ,show TE.ty.get 43=some ag.t43 by kernel_rfl,ag.t43,fill,aT,aa8,aa7,abr,abI,abi,e0,e1,e2];rfl
theorem GM{x0:aeM}(h0:(cells x0).length=1):aJ TE 53 [(0,x0)]=some (.agg (cells x0++(([aeP 0]:aeN))).toArray):=by have⟨a0,e0⟩:=aX h0;simp only[aJ,show TE.ty.get 53=some ag.t53 by kernel_rfl,ag.t53,fill,aT,aa8,aa7,abr,abI,abi,e0];rfl
theorem CR{x0 x1:aeM}(h0:(cells x0).length=1)(h1:(cells x1).length=1):aJ TE 53 [(0,x0),(1,x1)]=some (.agg (cells x0++(cells x1)).toArray):=by have⟨a0,e0⟩:=aX h0;have⟨b0,e1⟩:=aX h1;simp only[aJ,show TE.ty.get 53=some ag.t53 by kernel_rfl,ag.t53,fill,aT,aa8,aa7,abr,abI,abi,e0,e1];rfl
theorem zq{x0 x1 x2:aeM}(h0:(cells x0).length=1)(h1:(cells x1).length=2)(h2:(cells x2).length=1):aJ TE 55 [(0,x0),(1,x1),(2,x2)]=some (.agg (cells x0++(cells x1++(cells x2))).toArray):=by have⟨a0,e0⟩:=aX h0;have⟨b0,d0,e1⟩:=rq h1;have⟨g0,e2⟩:=aX h2;simp only[aJ,show TE.ty.get 55=some ag.t55 by kernel_rfl,ag.t55,fill,aT,aa8,aa7,abr,abI,abi,e0,e1,e2];rfl
theorem ni:aJ TE 60 []=some (.agg (([.int .i64 0]:aeN)++(([.int .i64 0]:aeN)++(([.int .i64 0]:aeN)++(([aeQ]:aeN)++(([.int .i64 0]:aeN)++(([.int .i64 0]:aeN))))))).toArray):=by kernel_rfl
theorem pW{x0 x1 x2 x3 x4 x5:aeM}(h0:(cells x0).length=1)(h1:(cells x1).length=1)(h2:(cells x2).length=1)(h3:(cells x3).length=1)(h4:(cells x4).length=1)(h5:(cells x5).length=1):aJ TE 60 [(0,x0),(1,x1),(2,x2),(3,x3),(4,x4),(5,x5)]=some (.agg (cells x0++(cells x1++(cells x2++(cells x3++(cells x4++(cells x5)))))).toArray):=by have⟨a0,e0⟩:=aX h0;have⟨b0,e1⟩:=aX h1;have⟨d0,e2⟩:=aX h2;have⟨g0,e3⟩:=aX h3;have⟨i0,e4⟩:=aX h4;have⟨j0,e5⟩:=aX h5;simp only[aJ,show TE.ty.get 60=some ag.t60 by kernel_rfl,ag.t60,fill,aT,aa8,aa7,abr,abI,abi,e0,e1,e2,e3,e4,e5];rfl
theorem so{x0 x1 x2 x3 x4:aeM}(h0:(cells x0).length=1)(h1:(cells x1).length=1)(h2:(cells x2).length=1)(h3:(cells x3).length=1)(h4:(cells x4).length=1):aJ TE 60 [(0,x0),(1,x1),(2,x2),(4,x3),(5,x4)]=some (.agg (cells x0++(cells x1++(cells x2++(([aeQ]:aeN)++(cells x3++(cells x4)))))).toArray):=by have⟨a0,e0⟩:=aX h0;have⟨b0,e1⟩:=aX h1;have⟨d0,e2⟩:=aX h2;have⟨g0,e3⟩:=aX h3;have⟨i0,e4⟩:=aX h4;simp only[aJ,show TE.ty.get 60=some ag.t60 by kernel_rfl,ag.t60,fill,aT,aa8,aa7,abr,abI,abi,e0,e1,e2,e3,e4];rfl
theorem Li:aJ TE 62 []=some (.agg (([.int .i64 0]:aeN)++(([.int .i64 0,.int .i64 0,.int .i64 0,aeQ,.int .i64 0,.int .i64 0]:aeN)++(([.int .i64 0]:aeN)++(([.int .i64 0]:aeN)++(([.int .i64 0]:aeN)++(([.int .i64 0]:aeN))))))).toArray):=by kernel_rfl
theorem sj{x0:aeM}(h0:(cells x0).length=1):aJ TE 62 [(0,x0)]=some (.agg (cells x0++(([aeP 0,aeP 0,aeP 0,aeQ,aeP 0,aeP 0]:aeN)++(([aeP 0]:aeN)++(([aeP 0]:aeN)++(([aeP 0]:aeN)++(([aeP 0]:aeN))))))).toArray):=by have⟨a0,e0⟩:=aX h0;simp only[aJ,show TE.ty.get 62=some ag.t62 by kernel_rfl,ag.t62,fill,aT,aa8,aa7,abr,abI,abi,e0];rfl
theorem ub{x0 x1:aeM}(h0:(cells x0).length=1)(h1:(cells x1).length=1):aJ TE 75 [(0,x0),(1,x1)]=some (.agg (cells x0++(cells x1)).toArray):=by have⟨a0,e0⟩:=aX h0;have⟨b0,e1⟩:=aX h1;simp only[aJ,show TE.ty.get 75=some ag.t75 by kernel_rfl,ag.t75,fill,aT,aa8,aa7,abr,abI,abi,e0,e1];rfl
theorem GL{x0:aeM}(h0:(cells x0).length=1):aJ TE 79 [(0,x0)]=some (.agg (cells x0++(([aeQ]:aeN))).toArray):=by have⟨a0,e0⟩:=aX h0;simp only[aJ,show TE.ty.get 79=some ag.t79 by kernel_rfl,ag.t79,fill,aT,aa8,aa7,abr,abI,abi,e0];rfl
theorem GA{m:M}{k:IntKind}{n:Int}:Qp TE m 159 3 (.int k n)=some (.int .i64 (IntKind.wrap .i64 n)):=by kernel_rfl
theorem Gz{m:M}{k:IntKind}{n:Int}:Qp TE m 3 159 (.int k n)=some (.int .u64 (IntKind.wrap .u64 n)):=by kernel_rfl
theorem aeO{t i b o k:Nat}(h:af TE t (aeK b o) i=some (.pointer (some (Addr.add ⟨b,o,none⟩ k)))):af TE t (aeK b o) i=some (aeK b (o+k)):=by rw[h,aV rfl]
theorem dQ{b o:Nat}:af TE 109 (aeK b o) 0=some (aeK b (o+0)):=aeO (by kernel_rfl)
theorem eH{b o:Nat}:af TE 109 (aeK b o) 1=some (aeK b (o+1)):=aeO (by kernel_rfl)
theorem oG{b o:Nat}:af TE 109 (aeK b o) 2=some (aeK b (o+2)):=aeO (by kernel_rfl)
theorem cq{b o:Nat}:af TE 113 (aeK b o) 0=some (aeK b (o+0)):=aeO (by kernel_rfl)
theorem eG{b o:Nat}:af TE 113 (aeK b o) 1=some (aeK b (o+6)):=aeO (by kernel_rfl)
theorem bW{b o:Nat}:af TE 137 (aeK b o) 0=some (aeK b (o+0)):=aeO (by kernel_rfl)
theorem dp{b o:Nat}:af TE 137 (aeK b o) 1=some (aeK b (o+1)):=aeO (by kernel_rfl)
theorem eF{b o:Nat}:af TE 137 (aeK b o) 2=some (aeK b (o+2)):=aeO (by kernel_rfl)
theorem kb{b o:Nat}:af TE 137 (aeK b o) 3=some (aeK b (o+3)):=aeO (by kernel_rfl)
theorem ka{b o:Nat}:af TE 137 (aeK b o) 4=some (aeK b (o+4)):=aeO (by kernel_rfl)
theorem bY{b o:Nat}:af TE 141 (aeK b o) 0=some (aeK b (o+0)):=aeO (by kernel_rfl)
theorem cO{b o:Nat}:af TE 141 (aeK b o) 1=some (aeK b (o+1)):=aeO (by kernel_rfl)
theorem wT{b o:Nat}:af TE 143 (aeK b o) 0=some (aeK b (o+0)):=aeO (by kernel_rfl)
theorem wS{b o:Nat}:af TE 143 (aeK b o) 1=some (aeK b (o+2)):=aeO (by kernel_rfl)
theorem wR{b o:Nat}:af TE 145 (aeK b o) 0=some (aeK b (o+0)):=aeO (by kernel_rfl)
theorem wQ{b o:Nat}:af TE 145 (aeK b o) 1=some (aeK b (o+1)):=aeO (by kernel_rfl)
theorem wP{b o:Nat}:af TE 145 (aeK b o) 2=some (aeK b (o+2)):=aeO (by kernel_rfl)
theorem jZ{b o:Nat}:af TE 184 (aeK b o) 0=some (aeK b (o+0)):=aeO (by kernel_rfl)
theorem jY{b o:Nat}:af TE 184 (aeK b o) 1=some (aeK b (o+1)):=aeO (by kernel_rfl)
theorem jX{b o:Nat}:af TE 184 (aeK b o) 2=some (aeK b (o+7)):=aeO (by kernel_rfl)
theorem oF{b o:Nat}:af TE 184 (aeK b o) 3=some (aeK b (o+8)):=aeO (by kernel_rfl)
theorem oE{b o:Nat}:af TE 184 (aeK b o) 4=some (aeK b (o+9)):=aeO (by kernel_rfl)
theorem oD{b o:Nat}:af TE 184 (aeK b o) 5=some (aeK b (o+10)):=aeO (by kernel_rfl)
theorem pO{b o:Nat}:af TE 25 (aeK b o) 0=some (aeK b (o+0)):=aeO (by kernel_rfl)
theorem pN{b o:Nat}:af TE 25 (aeK b o) 1=some (aeK b (o+1)):=aeO (by kernel_rfl)
theorem oC{b o:Nat}:af TE 298 (aeK b o) 2=some (aeK b (o+2)):=aeO (by kernel_rfl)
theorem oB{b o:Nat}:af TE 298 (aeK b o) 3=some (aeK b (o+3)):=aeO (by kernel_rfl)
theorem oA{b o:Nat}:af TE 298 (aeK b o) 4=some (aeK b (o+4)):=aeO (by kernel_rfl)
theorem bO{b o:Nat}:af TE 30 (aeK b o) 0=some (aeK b (o+0)):=aeO (by kernel_rfl)
theorem bZ{b o:Nat}:af TE 33 (aeK b o) 0=some (aeK b (o+0)):=aeO (by kernel_rfl)
theorem cN{b o:Nat}:af TE 33 (aeK b o) 1=some (aeK b (o+1)):=aeO (by kernel_rfl)
theorem wO{b o:Nat}:af TE 341 (aeK b o) 0=some (aeK b (o+0)):=aeO (by kernel_rfl)
theorem wN{b o:Nat}:af TE 341 (aeK b o) 1=some (aeK b (o+1)):=aeO (by kernel_rfl)
theorem wM{b o:Nat}:af TE 341 (aeK b o) 2=some (aeK b (o+2)):=aeO (by kernel_rfl)
theorem jW{b o:Nat}:af TE 343 (aeK b o) 0=some (aeK b (o+0)):=aeO (by kernel_rfl)
theorem jV{b o:Nat}:af TE 343 (aeK b o) 1=some (aeK b (o+1)):=aeO (by kernel_rfl)
theorem jU{b o:Nat}:af TE 343 (aeK b o) 2=some (aeK b (o+2)):=aeO (by kernel_rfl)
theorem cX{b o:Nat}:af TE 38 (aeK b o) 0=some (aeK b (o+0)):=aeO (by kernel_rfl)
theorem eW{b o:Nat}:af TE 38 (aeK b o) 1=some (aeK b (o+2)):=aeO (by kernel_rfl)
theorem eh{b o:Nat}:af TE 38 (aeK b o) 2=some (aeK b (o+3)):=aeO (by kernel_rfl)
theorem iP{b o:Nat}:af TE 38 (aeK b o) 3=some (aeK b (o+4)):=aeO (by kernel_rfl)
theorem iO{b o:Nat}:af TE 43 (aeK b o) 0=some (aeK b (o+0)):=aeO (by kernel_rfl)
theorem eV{b o:Nat}:af TE 43 (aeK b o) 1=some (aeK b (o+5)):=aeO (by kernel_rfl)
theorem lC{b o:Nat}:af TE 43 (aeK b o) 2=some (aeK b (o+6)):=aeO (by kernel_rfl)
theorem lB{b o:Nat}:af TE 43 (aeK b o) 3=some (aeK b (o+7)):=aeO (by kernel_rfl)
theorem cW{b o:Nat}:af TE 53 (aeK b o) 0=some (aeK b (o+0)):=aeO (by kernel_rfl)
theorem dm{b o:Nat}:af TE 53 (aeK b o) 1=some (aeK b (o+1)):=aeO (by kernel_rfl)
theorem zb{b o:Nat}:af TE 55 (aeK b o) 0=some (aeK b (o+0)):=aeO (by kernel_rfl)
theorem za{b o:Nat}:af TE 55 (aeK b o) 1=some (aeK b (o+1)):=aeO (by kernel_rfl)
theorem yZ{b o:Nat}:af TE 55 (aeK b o) 2=some (aeK b (o+3)):=aeO (by kernel_rfl)
theorem bs{b o:Nat}:af TE 60 (aeK b o) 0=some (aeK b (o+0)):=aeO (by kernel_rfl)
theorem cM{b o:Nat}:af TE 60 (aeK b o) 1=some (aeK b (o+1)):=aeO (by kernel_rfl)
theorem cL{b o:Nat}:af TE 60 (aeK b o) 2=some (aeK b (o+2)):=aeO (by kernel_rfl)
theorem bH{b o:Nat}:af TE 60 (aeK b o) 3=some (aeK b (o+3)):=aeO (by kernel_rfl)
theorem cK{b o:Nat}:af TE 60 (aeK b o) 4=some (aeK b (o+4)):=aeO (by kernel_rfl)
theorem cJ{b o:Nat}:af TE 60 (aeK b o) 5=some (aeK b (o+5)):=aeO (by kernel_rfl)
theorem cz{b o:Nat}:af TE 62 (aeK b o) 0=some (aeK b (o+0)):=aeO (by kernel_rfl)
theorem dI{b o:Nat}:af TE 62 (aeK b o) 1=some (aeK b (o+1)):=aeO (by kernel_rfl)
theorem ck{b o:Nat}:af TE 62 (aeK b o) 2=some (aeK b (o+7)):=aeO (by kernel_rfl)
theorem cG{b o:Nat}:af TE 62 (aeK b o) 3=some (aeK b (o+8)):=aeO (by kernel_rfl)
theorem cF{b o:Nat}:af TE 62 (aeK b o) 4=some (aeK b (o+9)):=aeO (by kernel_rfl)
theorem dk{b o:Nat}:af TE 62 (aeK b o) 5=some (aeK b (o+10)):=aeO (by kernel_rfl)
theorem ee{b o:Nat}:af TE 75 (aeK b o) 0=some (aeK b (o+0)):=aeO (by kernel_rfl)
theorem pM{b o:Nat}:af TE 75 (aeK b o) 1=some (aeK b (o+1)):=aeO (by kernel_rfl)
theorem lA{b o:Nat}:af TE 79 (aeK b o) 0=some (aeK b (o+0)):=aeO (by kernel_rfl)
theorem iN{b o:Nat}:af TE 79 (aeK b o) 1=some (aeK b (o+1)):=aeO (by kernel_rfl)
theorem Ud{m:M}{a:Option Addr}{n c:Nat}:aw TE m .len [28] [.slice a n c]=some (.int .i64 n,m):=by kernel_rfl
theorem Eh{m:M}{a:Addr}:ah TE m 109 (.pointer (some a))=(D.loadCells m a 3).map (λcs=> .agg cs.toArray):=by kernel_rfl
theorem Eg{m:M}{a:Addr}:ah TE m 113 (.pointer (some a))=(D.loadCells m a 7).map (λcs=> .agg cs.toArray):=by kernel_rfl
theorem Oi{m:M}{a:Addr}:ah TE m 120 (.pointer (some a))=(D.loadCells m a 8).map (λcs=> .agg cs.toArray):=by kernel_rfl
theorem Ef{m:M}{a:Addr}:ah TE m 137 (.pointer (some a))=(D.loadCells m a 5).map (λcs=> .agg cs.toArray):=by kernel_rfl
theorem lh{m:M}{a:Addr}:ah TE m 141 (.pointer (some a))=(D.loadCells m a 2).map (λcs=> .agg cs.toArray):=by kernel_rfl
theorem mY{m:M}{a:Addr}:ah TE m 143 (.pointer (some a))=(D.loadCells m a 4).map (λcs=> .agg cs.toArray):=by kernel_rfl
theorem Ee{m:M}{a:Addr}:ah TE m 145 (.pointer (some a))=(D.loadCells m a 8).map (λcs=> .agg cs.toArray):=by kernel_rfl
theorem Oh{m:M}{a:Addr}:ah TE m 155 (.pointer (some a))=D.cellAt m a:=by kernel_rfl
theorem Og{m:M}{a:Addr}:ah TE m 173 (.pointer (some a))=D.cellAt m a:=by kernel_rfl
theorem Of{m:M}{a:Addr}:ah TE m 174 (.pointer (some a))=D.cellAt m a:=by kernel_rfl
theorem Ed{m:M}{a:Addr}:ah TE m 184 (.pointer (some a))=(D.loadCells m a 15).map (λcs=> .agg cs.toArray):=by kernel_rfl
theorem Ia{m:M}{a:Addr}:ah TE m 22 (.pointer (some a))=D.cellAt m a:=by kernel_rfl
theorem Ru{m:M}{a:Addr}:ah TE m 23 (.pointer (some a))=D.cellAt m a:=by kernel_rfl
theorem Ck{m:M}{a:Addr}:ah TE m 25 (.pointer (some a))=(D.loadCells m a 3).map (λcs=> .agg cs.toArray):=by kernel_rfl
theorem eO{m:M}{a:Addr}:ah TE m 28 (.pointer (some a))=D.cellAt m a:=by kernel_rfl
theorem Oe{m:M}{a:Addr}:ah TE m 298 (.pointer (some a))=(D.loadCells m a 5).map (λcs=> .agg cs.toArray):=by kernel_rfl
theorem bI{m:M}{a:Addr}:ah TE m 3 (.pointer (some a))=D.cellAt m a:=by kernel_rfl
theorem ez{m:M}{a:Addr}:ah TE m 30 (.pointer (some a))=(D.loadCells m a 1).map (λcs=> .agg cs.toArray):=by kernel_rfl
theorem nN{m:M}{a:Addr}:ah TE m 31 (.pointer (some a))=D.cellAt m a:=by kernel_rfl
theorem tE{m:M}{a:Addr}:ah TE m 33 (.pointer (some a))=(D.loadCells m a 2).map (λcs=> .agg cs.toArray):=by kernel_rfl
theorem Rt{m:M}{a:Addr}:ah TE m 34 (.pointer (some a))=D.cellAt m a:=by kernel_rfl
theorem Od{m:M}{a:Addr}:ah TE m 343 (.pointer (some a))=(D.loadCells m a 3).map (λcs=> .agg cs.toArray):=by kernel_rfl
theorem qC{m:M}{a:Addr}:ah TE m 35 (.pointer (some a))=D.cellAt m a:=by kernel_rfl
theorem Rs{m:M}{a:Addr}:ah TE m 36 (.pointer (some a))=D.cellAt m a:=by kernel_rfl
theorem HZ{m:M}{a:Addr}:ah TE m 38 (.pointer (some a))=(D.loadCells m a 5).map (λcs=> .agg cs.toArray):=by kernel_rfl
theorem Rr{m:M}{a:Addr}:ah TE m 39 (.pointer (some a))=D.cellAt m a:=by kernel_rfl
theorem vg{m:M}{a:Addr}:ah TE m 4 (.pointer (some a))=D.cellAt m a:=by kernel_rfl
theorem HY{m:M}{a:Addr}:ah TE m 40 (.pointer (some a))=D.cellAt m a:=by kernel_rfl
theorem Rq{m:M}{a:Addr}:ah TE m 41 (.pointer (some a))=D.cellAt m a:=by kernel_rfl
theorem Rp{m:M}{a:Addr}:ah TE m 43 (.pointer (some a))=(D.loadCells m a 8).map (λcs=> .agg cs.toArray):=by kernel_rfl
theorem Ro{m:M}{a:Addr}:ah TE m 45 (.pointer (some a))=D.cellAt m a:=by kernel_rfl
theorem xJ{m:M}{a:Addr}:ah TE m 53 (.pointer (some a))=(D.loadCells m a 2).map (λcs=> .agg cs.toArray):=by kernel_rfl
theorem Rn{m:M}{a:Addr}:ah TE m 55 (.pointer (some a))=(D.loadCells m a 4).map (λcs=> .agg cs.toArray):=by kernel_rfl
theorem tD{m:M}{a:Addr}:ah TE m 58 (.pointer (some a))=D.cellAt m a:=by kernel_rfl
theorem qB{m:M}{a:Addr}:ah TE m 60 (.pointer (some a))=(D.loadCells m a 6).map (λcs=> .agg cs.toArray):=by kernel_rfl
theorem Rm{m:M}{a:Addr}:ah TE m 62 (.pointer (some a))=(D.loadCells m a 11).map (λcs=> .agg cs.toArray):=by kernel_rfl
theorem Rl{m:M}{a:Addr}:ah TE m 75 (.pointer (some a))=(D.loadCells m a 2).map (λcs=> .agg cs.toArray):=by kernel_rfl
theorem Rk{m:M}{a:Addr}:ah TE m 79 (.pointer (some a))=(D.loadCells m a 2).map (λcs=> .agg cs.toArray):=by kernel_rfl
theorem BD:TE.ty.get 109=some ag.t109:=by kernel_rfl
theorem MT:TE.ty.get 113=some ag.t113:=by kernel_rfl
theorem uC:TE.ty.get 120=some ag.t120:=by kernel_rfl
theorem uB:TE.ty.get 137=some ag.t137:=by kernel_rfl
theorem dh:TE.ty.get 141=some ag.t141:=by kernel_rfl
theorem oU:TE.ty.get 143=some ag.t143:=by kernel_rfl
theorem oT:TE.ty.get 145=some ag.t145:=by kernel_rfl
theorem Tq:TE.ty.get 153=some ag.t153:=by kernel_rfl
theorem Tp:TE.ty.get 155=some ag.t155:=by kernel_rfl
theorem To:TE.ty.get 174=some ag.t174:=by kernel_rfl
theorem SI:TE.ty.get 22=some ag.t22:=by kernel_rfl
theorem W1:TE.ty.get 23=some ag.t23:=by kernel_rfl
theorem SH:TE.ty.get 28=some ag.t28:=by kernel_rfl
theorem uA:TE.ty.get 298=some ag.t298:=by kernel_rfl
theorem uz:TE.ty.get 3=some ag.t3:=by kernel_rfl
theorem oS:TE.ty.get 30=some ag.t30:=by kernel_rfl
theorem MS:TE.ty.get 31=some ag.t31:=by kernel_rfl
theorem fJ:TE.ty.get 33=some ag.t33:=by kernel_rfl
theorem SG:TE.ty.get 34=some ag.t34:=by kernel_rfl
theorem xX:TE.ty.get 343=some ag.t343:=by kernel_rfl
theorem MR:TE.ty.get 35=some ag.t35:=by kernel_rfl
theorem W0:TE.ty.get 36=some ag.t36:=by kernel_rfl
theorem mJ:TE.ty.get 38=some ag.t38:=by kernel_rfl
theorem Fp:TE.ty.get 4=some ag.t4:=by kernel_rfl
theorem WZ:TE.ty.get 40=some ag.t40:=by kernel_rfl
theorem MQ:TE.ty.get 43=some ag.t43:=by kernel_rfl
theorem WY:TE.ty.get 45=some ag.t45:=by kernel_rfl
theorem sA:TE.ty.get 53=some ag.t53:=by kernel_rfl
theorem SF:TE.ty.get 55=some ag.t55:=by kernel_rfl
theorem Dr:TE.ty.get 58=some ag.t58:=by kernel_rfl
theorem du:TE.ty.get 60=some ag.t60:=by kernel_rfl
theorem og:TE.ty.get 62=some ag.t62:=by kernel_rfl
theorem WX:TE.ty.get 69=some ag.t69:=by kernel_rfl
theorem Mc:TE.ty.get 75=some ag.t75:=by kernel_rfl
theorem SE:TE.ty.get 79=some ag.t79:=by kernel_rfl
theorem aa3{f:Nat}{c:Func}(h:Tryz.prog.funcs[f]?=some c)(g:(TE.fn.get f).isSome:=by kernel_rfl):TE.fn.get f=some c:=by
 cases e:TE.fn.get f with
 | none=>rw[e]at g;cases g
 | some d=>have q:=ag.ok.fn f d e;rw[h]at q;cases q;rfl
end
section
abbrev δ:=λa b c=>ai (ah TE a b c)
abbrev ε:=λa b c=>ai (af TE a b c)
abbrev ζ:=λa b c=>ai (an TE a b c)
abbrev η:=λa b c d=>ai (az TE a b c d)
abbrev θ:=λa b=>ai (aJ TE a b)
abbrev ι:=λa b c d=>aP (aD TE a b c d)
abbrev κ:=λa b c d=>aP (aw TE a b c d)
abbrev ν:=λa b c d=>aP (aG TE a b c d)
abbrev ξ:=λa b=>ai (bz a b)
abbrev ο:=λa b=>ai (cZ a b)
abbrev ρ:=λ(m:M) (x:aeM) (t:Nat)=>bE (M.push m (.cells (cells x) t none))
abbrev ς:=λ(m:M) (l:aeN) (t:Nat)=>bE (M.push m (.cells l t none))
abbrev υ:=λm:M=>ptrTo m.n
abbrev φ:=Value.int .i64
abbrev χ:=λ(X:aK) (f:Nat)=>bh TE X (.func f)
abbrev ψ:=λa b c:Nat=>(min (min a b) c)
abbrev ω:=λa b c d:Nat=>(min (min (min a b) c) d)
abbrev Γ:=λa b c d e:Nat=>(min (min (min (min a b) c) d) e)
abbrev Δ:=λa b c d e f:Nat=>(min (min (min (min (min a b) c) d) e) f)
abbrev Θ:=λa b c d e f g:Nat=>(min (min (min (min (min (min a b) c) d) e) f) g)
abbrev Λ:=λa b c d e f g h:Nat=>(min (min (min (min (min (min (min a b) c) d) e) f) g) h)
abbrev Ξ:=λa b c d e f g h i:Nat=>(min (min (min (min (min (min (min (min a b) c) d) e) f) g) h) i)
abbrev Φ:=λa b c d e f g h i j:Nat=>(min (min (min (min (min (min (min (min (min a b) c) d) e) f) g) h) i) j)
abbrev Ψ:=λa b c d e f g h i j k:Nat=>(min (min (min (min (min (min (min (min (min (min a b) c) d) e) f) g) h) i) j) k)
abbrev Ω:=λa b c d e f g h i j k l:Nat=>(min (min (min (min (min (min (min (min (min (min (min a b) c) d) e) f) g) h) i) j) k) l)
abbrev aaM:=λa b c d e f g h i j k l m:Nat=>(min (min (min (min (min (min (min (min (min (min (min (min a b) c) d) e) f) g) h) i) j) k) l) m)
abbrev aaN:=λa b c d e f g h i j k l m n:Nat=>(min (min (min (min (min (min (min (min (min (min (min (min (min a b) c) d) e) f) g) h) i) j) k) l) m) n)
abbrev aaO:=λ(W:Words) a b c=>W.ai (ah TE a b c)
abbrev aaP:=λ(W:Words) a b c=>W.ai (af TE a b c)
abbrev aaQ:=λ(W:Words) a b c=>W.ai (an TE a b c)
abbrev aaR:=λ(W:Words) a b c d=>W.ai (az TE a b c d)
abbrev aaS:=λ(W:Words) a b=>W.ai (aJ TE a b)
abbrev aaT:=λ(W:Words) a b c d=>W.aP (aD TE a b c d)
abbrev aaU:=λ(W:Words) a b c d=>W.aP (aw TE a b c d)
abbrev aaV:=λ(W:Words) a b c d=>W.aP (aG TE a b c d)
abbrev aaW:=λ(W:Words) a b=>W.ai (bz a b)
abbrev aaX:=λ(W:Words) a b=>W.ai (cZ a b)
abbrev aaY:=λ(W:Words) (m:M) (x:aeM) (t:Nat)=>W.bE (M.push m (.cells (cells x) t none))
abbrev aaZ:=λ(W:Words) (m:M) (l:aeN) (t:Nat)=>W.bE (M.push m (.cells l t none))
abbrev aa0:=λm:M=>ptrTo m.n
abbrev aa1:=Value.int .i64
abbrev aa2:=λ(W:Words) (f:Nat)=>W.bh (.func f)
section
variable {X:aK}{x0 x1 x2:aeM}{m:M}{R:aeN->M->Nat->Prop}{W:Words}
theorem ZL:eL TE (aL TE X) f217 [x0,x1] m R=χ X 297 [x0,x1] m λa b c=>η .geq 3 a (φ 0) λa=>R [a] b (min m.n c):=by kernel_rfl
theorem ZK:eL TE (aL TE X) f218 [x0] m R=ρ m x0 141 λa=>jn (λb=>ε 141 (υ m) 0 λc=>δ a 3 c λc=>ε 141 (υ m) 1 λd=>δ a 3 d λd=>κ a .min [3,3] [c,d] λc _=>η .lss 3 c (φ 0) λc=>aR c (b [aeR] a m.n) (ε 141 (υ m) 0 λc=>δ a 3 c λc=>ε 141 (υ m) 1 λd=>δ a 3 d λd=>κ a .max [3,3] [c,d] λc _=>η .gtr 3 c (φ 40) λc=>b [c] a m.n)) (λa b c=>un a λa _=>R [a] b c):=by kernel_rfl
theorem ZS:eL TE W f193 [x0,x1,x2] m R=aaY W m x0 141 λa=>aaY W a x1 141 λb=>aaY W b x2 141 λc=>aaP W 141 (aa0 a) 0 λd=>aaO W c 3 d λd=>aaP W 141 (aa0 m) 0 λf=>aaO W c 3 f λf=>aaR W .sub 3 d f λd=>aaP W 141 (aa0 b) 1 λf=>aaO W c 3 f λf=>aaP W 141 (aa0 m) 1 λg=>aaO W c 3 g λg=>aaR W .sub 3 f g λf=>aaR W .mul 3 d f λd=>aaP W 141 (aa0 a) 1 λa=>aaO W c 3 a λa=>aaP W 141 (aa0 m) 1 λf=>aaO W c 3 f λf=>aaR W .sub 3 a f λa=>aaP W 141 (aa0 b) 0 λb=>aaO W c 3 b λb=>aaP W 141 (aa0 m) 0 λf=>aaO W c 3 f λf=>aaR W .sub 3 b f λb=>aaR W .mul 3 a b λa=>aaR W .sub 3 d a λa=>R [a] c m.n:=by kernel_rfl
theorem aaa:eL TE (aL TE X) f170 [x0] m R=jn (λa=>κ m .len [58] [x0] λb _=>η .lss 3 b (φ 3) λb=>aR b (a [aeR] m m.n) (κ m .len [58] [x0] λb _=>η .gtr 3 b (φ 8) λb=>aR b (a [aeR] m m.n) (χ X 217 [x0,.func (.func 218) #[] #[]] m λb c d=>a [b] c (min m.n d)))) (λa b c=>un a λa _=>aR a (R [aeS] b c) (κ b .len [58] [x0] λa _=>Lp (λb c d f=>un c λc g=>un g λg _=>η .lss 3 g a λa=>aR a (ζ 58 x0 g λa=>δ d 141 a λa=>ς d [φ 0,φ 0] 141 λh=>ι h 141 (υ d) a λa h=>η .add 3 g (φ 1) λi=>κ a .len [58] [x0] λj _=>η .rem 3 i j λi=>κ a .len [58] [x0] λj _=>Lp (λa c f h=>un c λc k=>un k λk _=>η .lss 3 k j λj=>aR j (ζ 58 x0 k λb=>δ f 141 b λb=>ς f [φ 0,φ 0] 141 λj=>ι j 141 (υ f) b λb j=>jn (λa=>η .neq 3 k g λc=>aR c (η .neq 3 k i λc=>aR c (δ b 141 (υ d) λc=>ζ 58 x0 i λd=>δ b 141 d λd=>δ b 141 (υ f) λf=>χ X 193 [c,d,f] b λb c d=>η .leq 3 b (φ 0) λb=>a [b] c (ψ h j d)) (a [aeS] b (min h j))) (a [aeS] b (min h j))) (λb d f=>un b λb _=>aR b (R [aeS] d f) (η .add 3 k (φ 1) λb=>a [c,b] d f))) (η .add 3 g (φ 1) λa=>b [c,a] f h)) [c,φ 0] a (min f h)) (R [aeR] d f)) [aeS,φ 0] b c)):=by kernel_rfl
theorem ZT:eL TE (aL TE X) f192 [x0] m R=ρ m x0 58 λa=>R [.func (.func 232) #[] #[υ m]] a m.n:=by kernel_rfl
theorem Zx:eL TE (aL TE X) f232 [x0,x1] m R=δ m 58 x1 λa=>κ m .len [58] [a] λb _=>Lp (λc d f g=>un d λd _=>η .lss 3 d b λb=>aR b (ζ 58 a d λa=>δ f 141 a λa=>ς f [φ 0,φ 0] 141 λb=>ι b 141 (υ f) a λa b=>δ a 141 (υ f) λf=>δ a 58 x1 λh=>η .add 3 d (φ 1) λi=>δ a 58 x1 λj=>κ a .len [58] [j] λj _=>η .rem 3 i j λi=>ζ 58 h i λh=>δ a 141 h λh=>ia x0 λi j k=>bh TE X i (j.toList++([f,h]++k.toList)) a λa f h=>ο .not a λa=>aR a (R [] f (ψ g b h)) (η .add 3 d (φ 1) λa=>c [a] f (ψ g b h))) (R [] f g)) [φ 0] m m.n:=by kernel_rfl
theorem F59:eL TE (aL TE X) f59 [x0,x1] m R=χ X 120 [x0] m λa b c=>χ X 120 [x1] b λb d f=>aR a (aR b (R [φ 0] d (ψ m.n c f)) (R [φ (-1)] d (ψ m.n c f))) (aR b (R [φ 1] d (ψ m.n c f)) (η .lss 3 x0 x1 λa=>aR a (R [φ (-1)] d (ψ m.n c f)) (η .gtr 3 x0 x1 λa=>aR a (R [φ 1] d (ψ m.n c f)) (R [φ 0] d (ψ m.n c f))))):=by kernel_rfl
theorem aay:eL TE (aL TE X) f120 [x0] m R=η .neq 3 x0 x0 λa=>R [a] m m.n:=by kernel_rfl
theorem F82:eL TE (aL TE X) f82 [x0] m R=η .eql 58 x0 aeQ λa=>aR a (R [aeQ] m m.n) (ν m 58 0 [] λa b=>κ (M.wl b b.n) .append [58,58] [a,x0] λa b=>R [a] b (min m.n (M.low b))):=by kernel_rfl
end
end
section
structure cC(X:aK):Prop where
 no:∀f,(Nat.beq f 99999 ||Nat.beq f 99999 ||Nat.beq f 99999 ||Nat.beq f 346 ||Nat.beq f 312 ||Nat.beq f 99999 ||Nat.beq f 233 ||Nat.beq f 99999 ||Nat.beq f 343 ||Nat.beq f 281 ||Nat.beq f 347 ||Nat.beq f 105 ||Nat.beq f 6 ||Nat.beq f 33 ||Nat.beq f 163 ||Nat.beq f 161 ||Nat.beq f 165 ||Nat.beq f 99999)=false->Qq X f
abbrev C(X:aK):=Cl TE X
structure Pl where
 x:Int
 y:Int
deriving DecidableEq
def Pl.c(p:Pl):aeN:=[.int .i64 p.x,.int .i64 p.y]
abbrev Pl.v(p:Pl):aeM:=.agg #[.int .i64 p.x,.int .i64 p.y]
instance:aZ Pl where
 ty:=141
 sz:=2
 agg:=true
 eB:=[]
 rep _ p cs:=cs=p.c
 pos:=by decide
 one:=by grind
 len:=by rintro _ _ _ rfl;rfl
 fB:=by rintro _ _ _ rfl;rfl
 aY:=by grind
theorem cx:oP TE 58 141 Pl:=⟨ag.t58,ag.t141,by kernel_rfl,⟨_,rfl⟩,rfl,by kernel_rfl,rfl,rfl⟩
theorem zC:ur TE 58 Pl:=⟨ag.t58,ag.t141,by kernel_rfl,rfl,rfl,by kernel_rfl,by decide,rfl⟩
instance:aZ Int where
 ty:=3
 sz:=1
 agg:=false
 eB:=[]
 rep _ n cs:=cs=[.int .i64 n]
 pos:=by decide
 one:=by grind
 len:=by grind
 fB:=by rintro _ _ _ rfl;rfl
 aY:=by grind
theorem dV:oP TE 26 3 Int:=⟨ag.t26,ag.t3,by kernel_rfl,⟨_,rfl⟩,rfl,by kernel_rfl,rfl,rfl⟩
theorem Sm:ur TE 26 Int:=⟨ag.t26,ag.t3,by kernel_rfl,rfl,rfl,by kernel_rfl,by decide,rfl⟩
def idx{α:Type}(p:α->Bool):List α->Int
 |[]=> -1
 |x::l=>if p x then 0 else match idx p l with |.ofNat n=>n+1 |.negSucc _=> -1
theorem kL{α:Type}(p:α->Bool):∀l:List α,(idx p l= -1/\∀x∈l,p x=false)\/(∃i x,idx p l=(i:Nat)/\l[i]?=some x/\p x/\∀j y,j < i->l[j]?=some y->p y=false)
 |[]=> .inl ⟨rfl,λ_ h=>by cases h⟩
 |x::l=>by
  cases hp:p x with
  |true=>exact .inr ⟨0,x,by simp[idx,hp],rfl,hp,λj y hj=>by omega⟩
  |false=>
   rcases kL p l with⟨h1,h2⟩ |⟨i,y,h1,h2,h3,h4⟩
   ·refine .inl ⟨by simp only[idx,hp,h1];rfl,λz hz=>?_⟩
    grind
   ·refine .inr ⟨i+1,y,by simp only[idx,hp,h1];rfl,by grind,h3,λj z hj hz=>?_⟩
    cases j with
    |zero=>simp at hz;subst hz;exact hp
    |succ j=>exact h4 j z (by omega) (by simpa using hz)
theorem Cz{α:Type}{p:α->Bool}{l:List α}{i:Nat}{x:α}(hx:l[i]?=some x)(hp:p x)(h:∀j y,j < i->l[j]?=some y->p y=false):idx p l=i:=by
 rcases kL p l with⟨h1,h2⟩ |⟨k,y,h1,h2,h3,h4⟩
 ·grind
 ·grind
theorem tI{α:Type}{p:α->Bool}{l:List α}(h:∀x∈l,p x=false):idx p l= -1:=by
 rcases kL p l with⟨h1,h2⟩ |⟨k,y,h1,h2,h3,h4⟩;·exact h1
 ·grind
theorem il{α:Type}{p:α->Bool}{l:List α}:decide (0<=idx p l)=l.any p:=by
 rcases kL p l with⟨h1,h2⟩ |⟨k,y,h1,h2,h3,h4⟩
 ·grind
 ·grind
theorem RD{α:Type}{p:α->Bool}{l:List α}:decide (idx p l < 0)= !(l.any p):=by
 rw[<-il]
 grind
abbrev zW(T t:TypeId)(W:Words)(x0 x1:aeM)(m:M)(R:aeN->M->Nat->Prop):Prop:=
(W.aP (aw TE m .len [T] [x0]) λv1 _=>(W.Lp (λP2 d0 m4 a0=>W.un d0 λv6 r7=>W.un r7 λv8 r9=>(W.ai (az TE .lss 3 v8 v1) λv10=>(aR v10
(W.ai (an TE T x0 v8) λv11=>(W.ai (ah TE m4 t v11) λv12=>(ia x1 λg13 f14 e0=>(W.bh g13 (f14.toList++([v12]++e0.toList)) m4 λg0 m17 b0=>(aR g0
(R [v8] m17 (min a0 b0))
(W.ai (az TE .add 3 v8 (.int .i64 1)) λh0=>(P2 [v6,h0] m17 (min a0 b0))))))))
(R [.int .i64 (-1)] m4 a0)))) [.int .i64 0,.int .i64 0] m (M.n m)))
theorem RI{W:Words}{x0 x1:aeM}{m:M}{R:aeN->M->Nat->Prop}:eL TE W f297 [x0,x1] m R=zW 58 141 W x0 x1 m R:=by kernel_rfl
theorem AR{W:Words}{x0 x1:aeM}{m:M}{R:aeN->M->Nat->Prop}:eL TE W f145 [x0,x1] m R=zW 28 60 W x0 x1 m R:=by kernel_rfl
theorem Cv{X:aK}{T t:TypeId}{α:Type}[aZ α](hT:oP TE T t α){m:M}{l:List α}{v:aeM}{g:Fn}{fi ca:Array aeM}{R:aeN->M->Nat->Prop}(J:Nat->M->Nat->Prop)(d0:Nat->M->Nat->Prop)(p:Nat->Bool)(hb:l.length < 4611686018427387904)
  (hl:∀i m lo,J i m lo->oJ m l v)
  (hs:∀i x m1 a0,l[i]?=some x->J i m1 a0->∀cs,aZ.rep m1 x cs->∃b m2,C X g (fi.toList++([aZ.val α cs]++ca.toList)) m1 b (.bool (p i)) m2/\(p i->d0 i m2 (min a0 b))/\(p i=false->J (i+1) m2 (min a0 b)))
  (h0:J 0 m m.n) (e0:∀i m2 fS,i < l.length->p i->d0 i m2 fS->R [aeP i] m2 fS) (g0:∀m2 fS,J l.length m2 fS->R [aeP (-1)] m2 fS):
  zW T t (aL TE X) v (.func g fi ca) m R:=by
 dsimp only[zW,aL];rw[(hl 0 m m.n h0).len hT,aA];refine Lp.intro (γ:=Nat) (λi=>l.length-i) (λi vs m lo=>∃w,vs=[w,aeP i]/\i<=l.length/\J i m lo) 0 ⟨_,rfl,abh _,h0⟩ ?_;rintro i vs m1 a0 ⟨w,rfl,hi,hJ⟩;simp only[aB,aM,ae,aj];refine ak (λh=>?_) (λh=>?_)
 ·have b0:i < l.length:=by grind
  have hx:l[i]?=some l[i]:=aa5 b0;have⟨a,cs,e1,e2,hr⟩:=(hl i m1 a0 hJ).index hT (k:=.i64) hx;rw[e1,ae,e2,ae,cf];obtain⟨b,m2,hc,i0,j0⟩:=hs i _ m1 a0 hx hJ cs hr;refine aE hc ?_;rw[aj];refine ak (λhp=>?_) (λhp=>?_);·exact e0 i _ _ b0 hp (i0 hp)
  simp only[aQ,ae];refine⟨i+1,by omega,w,?_,b0,j0 hp⟩;rw[wrap64 (by omega) (by omega)];rfl
 have k0:i=l.length:=by
  have:¬((i:Int)< (l.length:Int)):=by grind
  omega
 subst k0;exact g0 _ _ hJ
theorem zV{X:aK}{T t:TypeId}{α:Type}[aZ α](hT:oP TE T t α){f:Nat}{fn:Func}(hX:Qq X f)(hf:TE.fn.get f=some fn)(hn:Nat.ble 2 fn.ntmps)
  (hF:∀{W:Words} {x0 x1:aeM} {m:M} {R:aeN->M->Nat->Prop},eL TE W fn [x0,x1] m R=zW T t W x0 x1 m R)
  {m:M} {l:List α} {v:aeM} {g:Fn} {fi ca:Array aeM} (p:α->Bool) (hb:l.length < 4611686018427387904) (hl:oJ m l v)
  (hs:∀x∈l,∀cs,aZ.rep m x cs->C X g (fi.toList++([aZ.val α cs]++ca.toList)) m m.n (.bool (p x)) m):
  C X (.func f) [v,.func g fi ca] m m.n (aeP (idx p l)) m:=by
 refine Cl.flat hX hf hn rfl ?_;rw[hF];refine Cv hT (l:=l) (λi m1 lo=>m1=m/\lo=m.n/\∀j x,j < i->l[j]?=some x->p x=false) (λi m1 lo=>m1=m/\lo=m.n/\(∀j x,j < i->l[j]?=some x->p x=false)) (λi=>match l[i]? with |some x=>p x |none=>false) hb ?_ ?_ ⟨rfl,rfl,λj x hj=>by omega⟩ ?_ ?_;·rintro i m1 lo ⟨rfl,_,_⟩;exact hl
 ·rintro i x m1 lo hx ⟨rfl,rfl,hJ⟩ cs hr;rw[hx];refine⟨_,_,hs x (abb hx) cs hr,λ_=>⟨rfl,aeh _,hJ⟩,λhp=>⟨rfl,aeh _,λj y hj hy=>?_⟩⟩;by_cases e:j=i;·subst e;rw[hx]at hy;cases hy;exact hp
  exact hJ j y (by omega) hy
 ·rintro i m2 fS a0 hp ⟨rfl,rfl,hJ⟩;have hx:l[i]?=some l[i]:=aa5 a0;rw[hx]at hp;exact⟨by rw[bC,Cz hx hp hJ],aa4 _⟩
 rintro m2 fS ⟨rfl,rfl,hJ⟩;exact⟨by rw[bC,tI λx hx=>by have⟨j,hj⟩:=ac8.1 hx;exact hJ j x (aa9.1 hj).1 hj],aa4 _⟩
theorem fm{X:aK}{T t:TypeId}{α:Type}[aZ α](hT:oP TE T t α){f:Nat}{fn:Func}(hX:Qq X f)(hf:TE.fn.get f=some fn)(hn:Nat.ble 2 fn.ntmps)
  (hF:∀{W:Words} {x0 x1:aeM} {m:M} {R:aeN->M->Nat->Prop},eL TE W fn [x0,x1] m R=zW T t W x0 x1 m R)
  {m:M} {l:List α} {v:aeM} {g:Fn} {fi ca:Array aeM} (p:α->Bool) (hb:l.length < 4611686018427387904) (hl:Sl m l v)
  (hs:∀x∈l,∀cs,aZ.rep m x cs->C X g (fi.toList++([aZ.val α cs]++ca.toList)) m m.n (.bool (p x)) m):
  C X (.func f) [v,.func g fi ca] m m.n (aeP (idx p l)) m:=zV hT hX hf hn hF p hb (.inl hl) hs
theorem Gh{X:aK}(hX:cC X){m:M}{l:List Pl}{v:aeM}{g:Fn}{fi ca:Array aeM}(p:Pl->Bool)(hb:l.length < 4611686018427387904)(hl:Sl m l v)
  (hs:∀x∈l,C X g (fi.toList++([x.v]++ca.toList)) m m.n (.bool (p x)) m):C X (.func 297) [v,.func g fi ca] m m.n (aeP (idx p l)) m:=
 fm cx (hX.no _ rfl) (aa3 func297) rfl RI p hb hl λx hx cs hr=>by rw[show cs=x.c from hr];exact hs x hx
theorem ry{X:aK}(hX:cC X){m:M}{l:List Pl}{v:aeM}{g:Fn}{fi ca:Array aeM}(p:Pl->Bool)(hb:l.length < 4611686018427387904)(hl:Sl m l v)
  (hs:∀x∈l,C X g (fi.toList++([x.v]++ca.toList)) m m.n (.bool (p x)) m):C X (.func 217) [v,.func g fi ca] m m.n (.bool (l.any p)) m:=by refine Cl.flat (hX.no _ rfl) (aa3 func217) rfl rfl ?_;rw[show eL TE (aL TE X) f217 _ m _=_ from ZL];dsimp only[η,φ,χ];refine aE (Gh hX p hb hl hs) ?_;simp only[cB,ae,il,bC];exact⟨trivial,by omega⟩
end
section
variable {X:aK} {m:M}
theorem aW{G:(aeN->M->Nat->Prop)->Prop}{k:aeN->M->Nat->Prop}(Q:aeN->M->Nat->Prop)(h1:∀R:aeN->M->Nat->Prop,(∀vs m lo,Q vs m lo->R vs m lo)->G R)(h2:∀vs m lo,Q vs m lo->k vs m lo):jn G k:=h1 k h2
theorem ko{k:IntKind}{a b:Int}{ts:List TypeId}:aw TE m .min ts [.int k a,.int k b]=some (.int k (min a b),m):=by
 show some (Value.int k (if b < a then b else a),m)=_
 grind
theorem qz{k:IntKind}{a b:Int}{ts:List TypeId}:aw TE m .max ts [.int k a,.int k b]=some (.int k (max a b),m):=by
 show some (Value.int k (if b >a then b else a),m)=_
 grind
theorem bS{b:Nat}{p:Pl}{e:TypeId}{g:Option Nat}(h:m.get b=.cells p.c e g):ah TE m 141 (aeK b 0)=some p.v:=by rw[lh,aN h (by simp[Pl.c])];rfl
def di(a b c:Pl):Int:=(b.x-a.x)*(c.y-a.y)-(b.y-a.y)*(c.x-a.x)
def Hj(x:Int):Int:=IntKind.i64.wrap x
def Hn(a b c:Pl):Int:=Hj (Hj (Hj (b.x-a.x)*Hj (c.y-a.y))-Hj (Hj (b.y-a.y)*Hj (c.x-a.x)))
theorem QD(hX:cC X)(a b c:Pl):C X (.func 193) [a.v,b.v,c.v] m m.n (aeP (Hn a b c)) m:=by refine Cl.flat (hX.no _ rfl) (aa3 func193) rfl rfl ?_;rw[ZS];dsimp only[aL,aaO,aaP,aaR,aaY,aa0];refine av λm1 h0 d0 i0=>?_;refine av λm2 j0 e0 g0=>?_;refine av λm3 k0 a0 b0=>?_;have g1:=(b0 m.n (by omega)).trans ((g0 m.n (by omega)).trans d0);have g2:=(b0 m1.n (by omega)).trans e0;simp only[aT]at g1 g2 a0;simp only[ae,aA,cf,aj,bL,aO,cp,aM,cB,bV,aS,bR,bj,ptrTo,gC,ji,abV,Nat.reduceAdd,aa8,aa7,abU,acv,acf,acF,abi,aT,kR,jr,iy,kP,kQ,jq,bY,cO,bI,aI g1,aI g2,aI a0,dD,gE];exact⟨rfl,aa4 _⟩
def Pl.sm(N:Int)(p:Pl):Prop:= -N<=p.x/\p.x<=N/\ -N<=p.y/\p.y<=N
theorem AJ{a b N:Int}(ha: -N<=a)(a0:a<=N)(hb: -N<=b)(b0:b<=N): -(N*N)<=a*b/\a*b<=N*N:=by
 have h0:0<=N:=by omega
 have h1:0<=(N-a)*(N+b):=acd (by omega) (by omega)
 have h2:0<=(N+a)*(N-b):=acd (by omega) (by omega)
 have h3:0<=(N-a)*(N-b):=acd (by omega) (by omega)
 have h4:0<=(N+a)*(N+b):=acd (by omega) (by omega)
 grind
theorem Ds{a b c:Pl}(ha:a.sm 1000000)(hb:b.sm 1000000)(hc:c.sm 1000000):Hn a b c=di a b c:=by have⟨a1,a2,a3,a4⟩:=ha;have⟨b1,b2,b3,b4⟩:=hb;have⟨c1,c2,c3,c4⟩:=hc;have p:=AJ (a:=b.x-a.x) (b:=c.y-a.y) (N:=2000000) (by omega) (by omega) (by omega) (by omega);have q:=AJ (a:=b.y-a.y) (b:=c.x-a.x) (N:=2000000) (by omega) (by omega) (by omega) (by omega);unfold Hn di Hj;rw[wrap64 (x:=b.x-a.x) (by omega) (by omega),wrap64 (x:=c.y-a.y) (by omega) (by omega),wrap64 (x:=b.y-a.y) (by omega) (by omega),wrap64 (x:=c.x-a.x) (by omega) (by omega)];rw[wrap64 (x:=(b.x-a.x)*(c.y-a.y)) (by omega) (by omega),wrap64 (x:=(b.y-a.y)*(c.x-a.x)) (by omega) (by omega),wrap64 (by omega) (by omega)]
def Pl.off(p:Pl):Bool:=decide (min p.x p.y < 0) ||decide (40 < max p.x p.y)
theorem Pl.on{p:Pl}(h:p.off=false):0<=p.x/\p.x<=40/\0<=p.y/\p.y<=40:=by simp only[Pl.off,acB,acj]at h;omega
theorem Pl.NL{p:Pl}(h:p.off=false):p.sm 1000000:=by have:=Pl.on h;exact⟨by omega,by omega,by omega,by omega⟩
theorem Oz(hX:cC X)(p:Pl):C X (.func 218) [p.v] m m.n (.bool p.off) m:=by
 refine Cl.flat (hX.no _ rfl) (aa3 func218) rfl rfl ?_;rw[ZK];dsimp only[δ,ε,η,κ,ρ,υ,φ];refine av λm1 b0 a0 d0=>?_;simp only[aT]at a0;refine aW (λvs m2 lo=>vs=[.bool p.off]/\lo=m.n) (λR hR=>?_) ?_
 ·simp only[ae,aA,cf,aj,bL,aO,cp,aM,cB,bV,aS,bR,bj,ptrTo,gC,ji,abV,Nat.reduceAdd,aa8,aa7,abU,acv,acf,acF,abi,aT,kR,jr,iy,kP,kQ,jq,bY,cO,bI,aI a0,ko,qz];refine ak (λh=>hR _ _ _ ⟨by simp only[Pl.off,h];rfl,rfl⟩) (λh=>hR _ _ _ ⟨by simp only[Pl.off,h];rfl,rfl⟩)
 rintro _ m2 _ ⟨rfl,rfl⟩;rw[aB];exact⟨rfl,aa4 _⟩
def Np(l:List Pl)(i:Nat):Bool:=match l[i]?,l[(i+1)%l.length]? with
 |some a,some b=>l.zipIdx.all λ(c,k)=>k==i ||k==(i+1)%l.length ||decide (0 < di a b c)
 |_,_=>false
def oI(l:List Pl):Bool:=(List.range l.length).all (Np l)
def bJ(l:List Pl):Bool:=decide (3<=l.length) && decide (l.length<=8) && !(l.any Pl.off) && oI l
theorem eR{l:List Pl}(h:bJ l):3<=l.length/\l.length<=8:=by
 simp only[bJ,abc,abv]at h
 grind
theorem xW{l:List Pl}(h:bJ l):∀p∈l,p.off=false:=by
 simp only[bJ,abc,abz,ac1]at h
 grind
theorem jy{l:List Pl}(h:bJ l):∀p∈l,p.sm 1000000:=λp hp=>Pl.NL (xW h p hp)
theorem sO{l:List Pl}{i:Nat}{a b:Pl}(ha:l[i]?=some a)(hb:l[(i+1)%l.length]?=some b):
  Np l i↔∀k c,l[k]?=some c->k=i\/k=(i+1)%l.length\/0 < di a b c:=by
 unfold Np;rw[ha,hb];simp only[abw];constructor
 ·intro h k c hc
  have:=h (c,k) (by grind)
  grind
 ·grind
theorem Fk{l:List Pl}(h:bJ l){i k:Nat}{a b c:Pl}(ha:l[i]?=some a)(hb:l[(i+1)%l.length]?=some b)(hc:l[k]?=some c)(h1:k≠i)(h2:k≠(i+1)%l.length):0 < di a b c:=by
 simp only[bJ,abc,oI,abw,acE]at h;have hr:=h.2 i (aa9.1 ha).1;rcases(sO ha hb).1 hr k c hc with h |h |h
 ·grind
 ·grind
 exact h
end
section
variable {X:aK} {m:M}
theorem xC(hX:cC X){a b c:Pl}(ha:a.sm 1000000)(hb:b.sm 1000000)(hc:c.sm 1000000):C X (.func 193) [a.v,b.v,c.v] m m.n (aeP (di a b c)) m:=by rw[<-Ds ha hb hc];exact QD hX a b c
theorem _root_.Go.D.Sl.dZ{l:List Pl}{v:aeM}(h:Sl m l v){i:Nat}{p:Pl}(hi:l[i]?=some p){k:IntKind}:∃a,an TE 58 v (.int k i)=some a/\ah TE m 141 a=some p.v:=by have⟨a,cs,h1,h2,h3⟩:=h.index cx (k:=k) hi;rw[show cs=p.c from h3]at h2;exact⟨a,h1,h2⟩
theorem sR{t:TypeId}{a b:Nat}(hb:b≠0):az TE .rem t (aeP a) (aeP b)=some (aeP ((a%b:Nat):Int)):=by rw[uc (by omega)];rfl
theorem jz(hX:cC X){l:List Pl}{v:aeM}(hl:Sl m l v)(hb:l.length < 4611686018427387904):C X (.func 170) [v] m m.n (.bool (bJ l)) m:=by
 refine Cl.flat (hX.no _ rfl) (aa3 func170) rfl rfl ?_;rw[aaa];dsimp only[δ,ζ,η,ι,κ,ς,υ,φ,χ,ψ];refine aW (λvs m2 lo=>vs=[.bool (!(decide (3<=l.length) && decide (l.length<=8) && !(l.any Pl.off)))]/\m=m2/\m.n=lo) (λR hR=>?_) ?_
 ·rw[hl.len cx];simp only[ae,aA,cf,aj,bL,aO,cp,aM,cB,bV,aS,bR,bj,ptrTo,gC,ji,abV,Nat.reduceAdd,aa8,aa7,abU,acv,acf,acF,abi,aT,kR,jr,iy,kP,kQ,jq];refine ak (λh=>hR _ _ _ ⟨by grind,rfl,rfl⟩) (λh=>?_);have h3:3<=l.length:=by grind
  refine ak (λh=>hR _ _ _ ⟨by grind,rfl,rfl⟩) (λh=>?_);have h8:l.length<=8:=by grind
  refine aE (ry hX Pl.off hb hl λx _=>Oz hX x) ?_;exact hR _ _ _ ⟨by grind,rfl,(aeh _).symm⟩
 rintro _ _ _ ⟨rfl,rfl,rfl⟩;rw[aB,aj];refine ak (λh=>?_) (λh=>?_)
 ·refine⟨?_,aa4 _⟩;simp only[abz]at h;simp only[bC,bJ,h,acS]
 simp only[abu]at h;simp only[abc,abv,abz]at h;have⟨⟨h3,h8⟩,b0⟩:=h
 have p0:∀p∈l,p.sm 1000000:=λp hp=>Pl.NL (by rw[ac1]at b0;simpa using b0 p hp)
 have hv:∀r,oI l=r->bJ l=r:=λr hr=>by simp[bJ,h3,h8,b0,hr]
 rw[hl.len cx,aA];refine Lp.intro (γ:=Nat) (λi=>l.length-i) (λi vs m1 lo=>vs=[aeS,aeP i]/\i<=l.length/\Ext m m1/\m.n<=lo/\∀j,j < i->Np l j) 0 ⟨rfl,abh _,.refl,aa4 _,λj hj=>by omega⟩ ?_;rintro i vs m1 Q0 ⟨rfl,hi,hx,B0,h0⟩;simp only[aB,aM,ae,aj];refine ak (λq0=>?_) (λa1=>?_)
 ·have q0:i < l.length:=by grind
  obtain⟨pa,d0⟩:∃p,l[i]?=some p:=⟨_,aa5 q0⟩
  have C0:(i+1)%l.length < l.length:=acQ _ (by omega);obtain⟨pb,e0⟩:∃p,l[(i+1)%l.length]?=some p:=⟨_,aa5 C0⟩
  have⟨q,e1,e2⟩:=(hl.aF hx).dZ (k:=.i64) d0;rw[e1,ae,e2,ae];refine av λm2 b1 D0 E0=>?_;simp only[ptrTo];refine aC dh D0 rfl rfl rfl λm3 c1 F0 G0=>?_;have u0:Ext m m3:=⟨by have:=hx.n;omega,λb hb=>by have:=hx.n;rw[G0 b (by omega),E0 b (by omega),hx.get b hb]⟩
  simp only[aQ,ae];rw[wrap64 (by omega) (by omega),(hl.aF u0).len cx,aA];rw[show((i:Int)+1)=((i+1:Nat):Int) by omega,sR (by omega),ae,aA];refine Lp.intro (γ:=Nat) (λk=>l.length-k) (λk vs m4 r0=>vs=[aeS,aeP k]/\k<=l.length/\Ext m m4/\m1.n < m4.n/\m4.get m1.n=.cells pa.c 141 none/\m.n<=r0/\∀j c,j < k->l[j]?=some c->j=i\/j=(i+1)%l.length\/0 < di pa pb c) 0 ⟨rfl,abh _,u0,by omega,F0,by have:=hx.n;omega,λj c hj=>by omega⟩ ?_;rintro k vs m4 r0 ⟨rfl,hk,a0,d1,g1,v0,i0⟩;simp only[aB,aM,ae,aj];refine ak (λj0=>?_) (λO0=>?_)
  ·have j0:k < l.length:=by grind
   obtain⟨pc,g0⟩:∃p,l[k]?=some p:=⟨_,aa5 j0⟩
   have⟨q,e1,e2⟩:=(hl.aF a0).dZ (k:=.i64) g0;rw[e1,ae,e2,ae];refine av λm5 h1 H0 I0=>?_;refine aC dh H0 rfl rfl rfl λm6 i1 J0 K0=>?_;have y0:Ext m m6:=⟨by have:=a0.n;omega,λb hb=>by have:=a0.n;rw[K0 b (by omega),I0 b (by omega),a0.get b hb]⟩
   have k0:m6.get m1.n=.cells pa.c 141 none:=by grind
   refine aW (λvs m7 lo=>vs=[.bool (!(k==i ||k==(i+1)%l.length ||decide (0 < di pa pb pc)))]/\m7=m6/\m.n<=lo) (λR hR=>?_) ?_
   ·simp only[bR,ae,aj];have l0:m.n<=min r0 m4.n:=by have:=a0.n;omega
    refine ak (λz0=>?_) (λhe=>?_)
    ·have z0:k≠i:=by grind
     refine ak (λn0=>?_) (λj1=>?_)
     ·have n0:k≠(i+1)%l.length:=by grind
      rw[bS k0,ae];have⟨q,e1,e2⟩:=(hl.aF y0).dZ (k:=.i64) e0;rw[e1,ae,e2,ae,bS J0,ae];refine aE (xC hX (p0 _ (abb d0)) (p0 _ (abb e0)) (p0 _ (abb g0))) ?_;simp only[cp,ae];refine hR _ _ _ ⟨?_,rfl,by grind⟩;have:decide (di pa pb pc<=0)= !(decide (0 < di pa pb pc)):=by grind
      rw[this];simp[z0,n0]
     refine hR _ _ _ ⟨?_,rfl,l0⟩
     have:k=(i+1)%l.length:=by
      have h':(k:Int)=(((i+1)%l.length:Nat):Int):=by grind
      omega
     simp[this]
    refine hR _ _ _ ⟨?_,rfl,l0⟩;have:k=i:=by grind
    simp[this]
   rintro _ m7 k1 ⟨rfl,rfl,o0⟩;rw[aB,aj];refine ak (λA0=>?_) (λs0=>?_)
   ·have hc:oI l=false:=by
     cases hc:oI l with
     |false=>rfl
     |true=>simp only[oI,abw,acE]at hc;have h2:=(sO d0 e0).1 (hc i q0) k pc g0;simp only[abz,acB,beq_eq_false_iff_ne,acj]at A0;omega
    exact⟨by rw[hv false hc];rfl,o0⟩
   simp only[aQ,ae];rw[wrap64 (by omega) (by omega)];refine⟨k+1,by omega,by simp,by omega,y0,by omega,k0,o0,λj c hj hc=>?_⟩;by_cases L0:j < k;·exact i0 j c L0 hc
   have:j=k:=by omega
   subst this;rw[g0]at hc;cases hc;simp only[abu,acI,beq_iff_eq,abv]at s0;omega
  have l1:k=l.length:=by
   have:¬(k:Int)< (l.length:Int):=by grind
   omega
  refine⟨i+1,by omega,by simp,by omega,a0,v0,λj hj=>?_⟩;by_cases N0:j < i;·exact h0 j N0
  have:j=i:=by omega
  subst this;rw[sO d0 e0];intro q c hq;exact i0 q c (by grind) hq
 have o1:i=l.length:=by
  have:¬(i:Int)< (l.length:Int):=by grind
  omega
 have hc:oI l:=abw.2 λj hj=>h0 j (by grind);exact⟨by rw[hv true hc];rfl,B0⟩
end
section
variable {X:aK} {m:M}
def kc(l:List Pl):List (aeN):=l.mapIdx λi a=> [a.v,match l[(i+1)%l.length]? with |some b=>b.v |none=>undef]
theorem PH{l:List Pl}{i:Nat}{a b:Pl}(ha:l[i]?=some a)(hb:l[(i+1)%l.length]?=some b):(kc l)[i]?=some [a.v,b.v]:=by
 unfold kc
 grind
theorem vA{l:List Pl}{i:Nat}{args:aeN}(h:(kc l)[i]?=some args):∃a b,l[i]?=some a/\l[(i+1)%l.length]?=some b/\args=[a.v,b.v]:=by
 unfold kc at h
 rw[List.getElem?_mapIdx,abq]at h
 have⟨a,ha,h⟩:=h
 have a0:=(aa9.1 ha).1
 obtain⟨b,hb⟩:∃b,l[(i+1)%l.length]?=some b:=⟨_,aa5 (acQ _ (by omega))⟩
 grind
theorem qG{l:List Pl}:(kc l).length=l.length:=by unfold kc;rw[List.length_mapIdx]
theorem vB(hX:cC X){l:List Pl}{v:aeM}{b:Nat}(hlen:l.length < 4611686018427387904):
  Sy TE X (λ_=>False) (.func 232) [] [ptrTo b] (kc l) (λm=>m.get b=.cells [v] 58 none/\Sl m l v):=by
 intro y n0 B I J m hD hI hJ hy p0 hB d0 h0;refine Cl.gen (R:=λv m2 b=>B<=b/\(I (kc l).length m2\/J m2)) (hX.no _ rfl) (aa3 func232) rfl ?_;rw[show([]:aeN)++ .func (.yield y) #[] #[]::[ptrTo b]=[.func (.yield y) #[] #[],ptrTo b]from rfl,Zx];dsimp only[δ,ζ,η,ι,κ,ο,ς,υ,φ,ψ];have ld:∀m1:M,m1.get b=.cells [v] 58 none->ah TE m1 58 (aeK b 0)=some v:=λm1 h=>by rw[tD,aI h];rfl
 simp only[ptrTo];rw[ld m (hD _ _ h0).1,ae,(hD _ _ h0).2.len cx,aA];refine Lp.intro (γ:=Nat) (λi=>l.length-i) (λi vs m1 lo=>vs=[aeP i]/\i<=l.length/\I i m1/\n0<=m1.n/\B<=lo/\((i=0/\m1=m/\lo=m.n)\/lo < m.n)) 0 ⟨rfl,abh _,h0,p0,by omega,.inl ⟨rfl,rfl,rfl⟩⟩ ?_;rintro i vs m1 B0 ⟨rfl,hi,e0,C0,D0,a0⟩;simp only[aB,aM,ae,aj];refine ak (λg0=>?_) (λE0=>?_)
 ·have g0:i < l.length:=by grind
  obtain⟨pa,i0⟩:∃p,l[i]?=some p:=⟨_,aa5 g0⟩
  have q0:(i+1)%l.length < l.length:=acQ _ (by omega);obtain⟨pb,j0⟩:∃p,l[(i+1)%l.length]?=some p:=⟨_,aa5 q0⟩
  obtain⟨q,e1,e2⟩:=(hD _ _ e0).2.dZ (k:=.i64) i0;rw[e1,ae,e2,ae];refine av λm2 F0 r0 G0=>?_;refine aC dh r0 rfl rfl rfl λm3 H0 s0 I0=>?_;have u0:Ext m1 m3:=⟨by omega,by grind⟩
  have k0:=hI _ _ _ e0 u0;obtain⟨v0,l0⟩:=hD _ _ k0;rw[bS s0,ae,ld m3 v0,ae];simp only[aQ,ae];rw[wrap64 (by omega) (by omega),l0.len cx,aA];rw[show((i:Int)+1)=((i+1:Nat):Int) by omega,sR (by omega),ae];have⟨q,e1,e2⟩:=l0.dZ (k:=.i64) j0;rw[e1,ae,e2,ae,cf];obtain⟨v2,m4,b4,hc,J0,K0,L0,o0⟩:=d0 i [pa.v,pb.v] m3 (by omega) (PH i0 j0) k0;refine aE hc ?_;have N0:m3.n<=m4.n:=hc.1;rcases o0 with⟨rfl,y0⟩ |⟨rfl,z0⟩
  ·simp only[bj,ae,aj,ab7,aO];exact⟨i+1,by omega,rfl,by omega,y0,by omega,by omega,.inr (by omega)⟩
  simp only[bj,ae,aj,acx,bL];exact .inr ⟨.inr (by omega),by omega,.inr z0⟩
 have A0:i=l.length:=by
  have:¬(i:Int)< (l.length:Int):=by grind
  omega
 have b0:I (kc l).length m1:=by rw[qG,<-A0];exact e0
 rcases a0 with⟨h1,h2,h3⟩ |a0
 ·rw[h2]at b0;exact .inl ⟨rfl,by omega,by omega,.inl b0⟩
 exact .inr ⟨.inr a0,by omega,.inl b0⟩
theorem zi(hX:cC X){v:aeM}(hv:cells v=[v]):∃m',C X (.func 192) [v] m m.n (.func (.func 232) #[] #[ptrTo m.n]) m'/\Ext m m'/\m'.n=m.n+1/\m'.get m.n=.cells [v] 58 none:=by
 obtain⟨v',m',b,hc,rfl,rfl,h⟩:=Cl.heap (R:=λw m' b=>w=.func (.func 232) #[] #[ptrTo m.n]/\b=m.n/\Ext m m'/\m'.n=m.n+1/\m'.get m.n=.cells [v] 58 none) (hX.no _ rfl) (aa3 func192) rfl (m:=m) (args:=[v]) (by rw[ZT];dsimp only[ρ,υ];refine av λm1 hn hg hk=>?_;rw[hv]at hg;exact⟨.inl rfl,rfl,by omega,⟨by omega,λb hb=>hk b hb⟩,hn,hg⟩)
 exact⟨m',hc,h⟩
end
section
variable {X:aK} {m:M}
def dt(a b:Int):Int:=if a < b then -1 else if b < a then 1 else 0
theorem El(hX:cC X)(a:Int):C X (.func 120) [aeP a] m m.n aeS m:=by refine Cl.flat (hX.no _ rfl) (aa3 func120) rfl rfl ?_;rw[aay];dsimp only[η];simp only[bR,ae];exact⟨by simp[bC],aa4 _⟩
theorem eo(hX:cC X)(a b:Int):C X (.func 59) [aeP a,aeP b] m m.n (aeP (dt a b)) m:=by
 refine Cl.flat (hX.no _ rfl) (aa3 func59) rfl rfl ?_;rw[F59];dsimp only[η,φ,χ,ψ];refine aE (El hX a) (aE (El hX b) ?_);simp only[aj,aO,aM,bV,ae];refine ak (λh=>?_) (λh=>?_)
 ·have:a < b:=by grind
  exact⟨by simp[bC,dt,this],by omega⟩
 have h1:¬a < b:=by grind
 refine ak (λh=>?_) (λh=>?_)
 ·have h2:b < a:=by grind
  exact⟨by simp[bC,dt,h1,h2],by omega⟩
 have h2:¬b < a:=by grind
 exact⟨by simp[bC,dt,h1,h2],by omega⟩
def fZ(l:List Pl)(p:Pl):Nat->Int
 |0=>4611686018427387903
 |i+1=>match l[i]?,l[(i+1)%l.length]? with
  |some a,some b=>min (fZ l p i) (di a b p)
  |_,_=>fZ l p i
def DB(l:List Pl)(p:Pl):Int:=dt (fZ l p l.length) 0
end
section
variable {X:aK} {m:M}
theorem pX:aG TE m 58 0 []=some (.slice (some ⟨m.n,0,none⟩) 0 0,m.push (.cells [] 141 none)):=by kernel_rfl
theorem GD(hX:cC X){l:List Pl}{v:aeM}(hl:Sl m l v)(a0:l≠ [])(hs:l.length<=1000000):
  ∃v' m',C X (.func 82) [v] m m.n v' m'/\Ow m.n m' l v'/\Ext m m':=by
 have key:=Cl.heap (E:=TE) (X:=X) (f:=82) (args:=[v]) (m:=m) (R:=λv' m' b=>b=m.n/\Ow m.n m' l v'/\Ext m m') (hX.no _ rfl) (aa3 func82) rfl ?_
 ·obtain⟨v',m',b,hc,rfl,h3⟩:=key;exact⟨v',m',hc,h3⟩
 rw[F82];dsimp only[η,κ,ν]
 have b0:az TE .eql 58 v aeQ=some aeS:=by
  rcases hl with⟨_,rfl⟩ |⟨b,o,c,bc,g,rfl,_⟩;·exact absurd rfl a0
  simp only[az,eq?,Dr,ag.t58,abi]
 rw[b0];simp only[ae,aj,aO];rw[pX,aA];have d0:Ext m (m.push (.cells [] 141 none)):=Ext.refl.push;have⟨v',m1,e1,e0,he,g0⟩:=qc (m:=m.push (.cells [] 141 none)) zC (b:=m.n) M.aU (hl.aF d0) a0 hs;rw[e1,aA];have h0:=e0.flat a0;rw[M.mr]at g0;exact⟨.inl h0,by omega,e0.mono (by rw[M.mr];omega),d0.trans he⟩
def xH(l:List Pl):aeN:=l.flatMap Pl.c
theorem py{p:Pl}{l:List Pl}:xH (p::l)=aeP p.x::aeP p.y::xH l:=rfl
theorem sX:∀l:List Pl,(xH l).length=l.length*2
 |[]=>rfl
 |p::l=>by rw[py,abr,abr,sX l,abr];omega
theorem SO:∀{l:List Pl} {i:Nat} {p:Pl},l[i]?=some p->(xH l)[i*2]?=some (aeP p.x)
 |q::l,0,p,h=>by cases h;rfl
 |q::l,i+1,p,h=>by
  rw[py,show(i+1)*2=i*2+1+1 by omega,aa7,aa7]
  exact SO (by grind)
theorem SN:∀{l:List Pl} {i:Nat} {p:Pl},l[i]?=some p->(xH l)[i*2+1]?=some (aeP p.y)
 |q::l,0,p,h=>by cases h;rfl
 |q::l,i+1,p,h=>by
  rw[py,show(i+1)*2+1=i*2+1+1+1 by omega,aa7,aa7]
  exact SN (by grind)
theorem DK:∀{l:List Pl} {i:Nat} {p:Pl} (x:Int),l[i]?=some p->(xH l).set (i*2) (aeP x)=xH (l.set i ⟨x,p.y⟩)
 |q::l,0,p,x,h=>by cases h;rfl
 |q::l,i+1,p,x,h=>by
  rw[py,show(i+1)*2=i*2+1+1 by omega,ad2,ad2,DK x (by simpa using h),ad2,py]
theorem AB{l:List Pl}{i:Nat}{p:Pl}(h:l[i]?=some p):chunk (xH l) 2 i=p.c:=by
 have hx:=SO h
 have hy:=SN h
 have hl:=sX l
 have hi:=(aa9.1 h).1
 unfold chunk
 refine aco λk=>?_
 match k with
 |0=>rw[acy (by omega),acz,acY];exact hx
 |1=>rw[acy (by omega),acz];exact hy
 |k+2=>rw[ace (by grind)];rfl
theorem Nb{l:List Pl}{b:Nat}{c:Nat}{g:Option Nat}(h:m.get b=.cells (xH l) 141 g):Sl m l (aeL b 0 l.length c):=
 .inr ⟨b,0,c,xH l,g,rfl,h,by rw[sX];show 0+l.length*2<=_;omega,λi x hi=>by
  rw[abV]
  exact AB hi⟩
theorem Ug{b n c i:Nat}{k:IntKind}(hi:i < n):an TE 58 (aeL b 0 n c) (.int k i)=some (aeK b (i*2)):=by
 have hc:0<=(i:Int)/\(i:Int)< (n:Int)/\0 < ag.t58.es:=⟨by omega,by omega,by decide⟩
 have hd:ag.t58.d=.slice 141:=rfl;simp only[an,Dr,hd];rw[abe hc,aV rfl,abV];rfl
theorem kG{cs:aeN}{i:Nat}{x:aeM}(h:i < cs.length):cs.take i++([x]++cs.drop (i+1))=cs.set i x:=by rw[List.set_eq_take_append_cons_drop,abe h];rfl
def Pl.dbl(p:Pl):Pl:=⟨2*p.x,2*p.y⟩
def mixed(l:List Pl)(i:Nat):List Pl:=(l.take i).map Pl.dbl++l.drop i
end
section
end
section
variable {X:aK} {m:M}
structure Un where
 id:Int
 kind:Int
 dA:Int
 shape:List Pl
 back:Int
 front:Int
abbrev Un.c(u:Un)(w:aeM):aeN:=[.int .i64 u.id,.int .i64 u.kind,.int .i64 u.dA,w,.int .i64 u.back,.int .i64 u.front]
instance:aZ Un where
 ty:=60
 sz:=6
 agg:=true
 eB:=[141]
 rep m u cs:=∃w,cs=u.c w/\Sl m u.shape w
 pos:=by decide
 one:=by grind
 len:=by simp_all
 fB:=by rintro _ _ _ ⟨w,rfl,h⟩;show(true && (true && (true && (one w && (true && (true && true))))))=true;rw[h.one];rfl
 aY:=by
  rintro m m' u cs ⟨w,rfl,h⟩ hk
  exact⟨w,rfl,h.aY λb c t g hb ht=>hk b c t g hb (by simpa[aZ.ty,aZ.eB]using ht)⟩
abbrev Un.v(u:Un)(w:aeM):aeM:=.agg (u.c w).toArray
abbrev Un.zc:aeN:=[.int .i64 0,.int .i64 0,.int .i64 0,.slice none 0 0,.int .i64 0,.int .i64 0]
theorem bT{b:Nat}{u:Un}{w:aeM}{e:TypeId}{g:Option Nat}(h:m.get b=.cells (u.c w) e g):ah TE m 60 (aeK b 0)=some (u.v w):=by rw[qB,aN h (by simp)];rfl
theorem Un.cR{u:Un}{w:aeM}(hw:one w):(u.c w).all one:=by show(true && (true && (true && (one w && (true && (true && true))))))=true;rw[hw];rfl
def Sv(m:M)(o:Option Un)(v:aeM):Prop:=match o with |some u=>∃w,v=u.v w/\Sl m u.shape w |none=>v=.agg Un.zc.toArray
end
section
variable {X:aK} {m:M}
theorem Q6{n:Int}:aG TE m 26 1 [(0,.int .i64 n)]=some (.slice (some ⟨m.n,0,none⟩) 1 1,m.push (.cells [.int .i64 n] 3 none)):=by kernel_rfl
theorem Fy{n:Int}{b:Nat}{g:Option Nat}(h:m.get b=.cells [aeP n] 3 g):Sl m [n] (aeL b 0 1 1):=
 .inr ⟨b,0,1,_,g,rfl,h,aa4 _,λi x hi=>by
  match i with
  |0=>cases hi;rfl
  |i+1=>cases hi⟩
end
section
end
section
variable {X:aK} {m:M}
def dR(c n:Int):Int:=if c < 0 then(-(c+1))%n else c%n
theorem kY{c n:Int}(hn:0 < n):0<=dR c n/\dR c n < n:=by
 unfold dR;split;·exact⟨Int.emod_nonneg _ (by omega),aeG _ hn⟩
 exact⟨Int.emod_nonneg _ (by omega),aeG _ hn⟩
def lN(c:Int):Prop:= -9223372036854775808<=c/\c < 9223372036854775808
theorem mS{c n:Int}(hc:lN c)(hn:0 < n){P:aeM->Prop}(h:P (aeP (dR c n))):
  ai (az TE .lss 3 (aeP c) (aeP 0)) λv1=>aR v1 (ai (az TE .add 3 (aeP c) (aeP 1)) λv2=>ai (cZ .neg v2) λv3=>ai (az TE .rem 3 v3 (aeP n)) λv4=>P v4) (ai (az TE .rem 3 (aeP c) (aeP n)) λv5=>P v5):=by
 have⟨h1,h2⟩:=hc;simp only[aM,ae,aj];refine ak (λhl=>?_) (λhl=>?_)
 ·have hl:c < 0:=by grind
  simp only[aQ,ae]
  rw[wrap64 (by omega) (by omega),Bz,ae,wrap64 (by omega) (by omega),uc (by omega),ae]
  have:dR c n=(0-(c+1)).tmod n:=by
   unfold dR
   grind
  grind
 ·have hl:¬c < 0:=by grind
  rw[uc (by omega),ae]
  have:dR c n=c.tmod n:=by
   unfold dR
   grind
  grind
def cQ(n lo hi:Int):Bool:=decide (lo<=n) && decide (n<=hi)
end
section
open Go Go.D Go.ChangeShapes
def iG(c:Array aeM):aeN:=c.toList.map λv=>bif bF v then v else undef
def NR:Option Obj->Ob
 |some (.cells c _ _)=> .ro (iG c)
 |_=> .dead
def Ub(W:World):Nat->M
 |0=>{st:=.e,n:=0,low:=0}
 |k+1=>(Ub W k).push (NR W.heap[k]?)
theorem HR(W:World):∀k,(Ub W k).n=k
 |0=>rfl
 |k+1=>by
  show(Ub W k).n+1=k+1
  rw[HR W k]
theorem HS(W:World):∀k b,b < k->(Ub W k).get b=NR W.heap[b]?
 |k+1,b,h=>by
  show((Ub W k).push (NR W.heap[k]?)).get b=_
  by_cases hb:b=k
  ·subst hb
   have:=M.aU (m:=Ub W b) (o:=NR W.heap[b]?)
   rw[HR]at this
   grind
  ·rw[M.cD (by rw[HR];omega)]
   exact HS W k b (by omega)
def ep(W:World):M:=(Ub W W.heap.size).wl W.heap.size
theorem uF(W:World):(ep W).n=W.heap.size:=HR W _
theorem vQ(W:World){b:Nat}(h:b < W.heap.size):(ep W).get b=NR W.heap[b]?:=HS W _ b h
def sI(W:World):Sg:=λb=>if b < W.heap.size then some ⟨b,none⟩else none
theorem kF{W:World}{b:Nat}{i:BI}(h:sI W b=some i):b < W.heap.size/\i=⟨b,none⟩:=by
 unfold sI at h
 grind
theorem DA{W:World}(hW:0 < W.heap.size):eN Tryz.prog (sI W) (ep W) W:=by
 refine⟨λb i hb=>?_,λb i hb=>?_,λb i hb=>?_,λb b' i i' hb b0 _ _ he=>?_,λg hg=>?_⟩;·rw[uF];exact(kF hb).1
 ·obtain⟨h,rfl⟩:=kF hb
  rw[vQ W h]
  cases ho:W.heap[b]? with
  |none=>trivial
  |some o=>
   cases o with
   |cells c e fz=>
    refine⟨rfl,c,e,fz,ho,by simp[iG],λj u u' hu e0 h1=>?_⟩
    have a0:(iG c)[j]?=some (bif bF u' then u' else undef):=by
     unfold iG
     grind
    rw[hu]at a0
    simp only[abf]at a0
    subst a0
    cases hf:bF u' with
    |true=>exact .flat _ hf
    |false=>rw[hf]at h1;cases h1
   |_=>trivial
 ·obtain⟨h,rfl⟩:=kF hb;exact h
 ·obtain⟨_,rfl⟩:=kF hb;obtain⟨_,rfl⟩:=kF b0;exact he
 ·have d0:Tryz.prog.globals.size=1:=by kernel_rfl
  rw[d0]at hg
  unfold sI
  grind
theorem pP{α:Type}{Q:Nat->α->Prop}:∀n,(∀i,i < n->∃y,Q i y)->∃l:List α,l.length=n/\∀i y,l[i]?=some y->Q i y
 |0,_=>⟨[],rfl,by grind⟩
 |n+1,h=>by
  obtain⟨l,hl,hq⟩:=pP n λi hi=>h i (by omega)
  obtain⟨y,hy⟩:=h n (by omega)
  refine⟨l++ [y],by grind,λi z hz=>?_⟩
  grind
section
variable {H:Type} {enc:TypeId×aeM->H} {W:World} {sp:Nat->Bool} {held:Bool} {base:Nat}
set_option maxRecDepth 10000 in
theorem uI{t e:TypeId}{α:Type}[aZ α]{Py:α->Prop}{v:aeM}{fuel:Nat}{x:DataW H×List MemPlace}(ht:Tryz.prog.underlying t=some (.slice e))(l0:Tryz.prog.cellsOf e=aZ.sz α)
  (n0:∀fuel cs x,DataW.trod enc Tryz.prog W 0 sp held fuel e cs=some x->∃y:α,Py y/\(∀m,aZ.rep m y cs)/\∀u∈cs,bF u=true)
  (g0:Cell.okWide Tryz.prog W .any base t v) (h:DataW.trod enc Tryz.prog W 0 sp held fuel t [v]=some x):
  bw (sI W) v v/\∃l:List α,Hf (ep W) l v/\l.length < 9223372036854775808/\∀y∈l,Py y:=by
 rcases DataW.trod_slice ht h with⟨hv,_⟩ |⟨a,len,cap,elems,rest,n,rfl,hv,rfl,hb,hl,hm,hlen,h0,_,_⟩
 ·simp only[ac7,and_true]at hv;subst hv;exact⟨.flat _ rfl,[],.inl ⟨rfl,rfl⟩,by simp,λy hy=>by cases hy⟩
 ·simp only[ac7,and_true]at hv
  subst hv
  simp only[Cell.okWide,Cell.ok,ht]at g0
  have⟨_,_,_,b0,row,cells,a0,_⟩:=g0
  have⟨cI,off,y0⟩:=a
  dsimp only at b0 a0 hb
  subst b0
  unfold World.shape? at a0
  cases ho:W.heap[cI]? with
  |none=>rw[ho]at a0;cases a0
  |some o=>
   rw[ho]at a0
   cases o with
   |cells c e' fz=>
    have i0:cI < W.heap.size:=(ab2.1 ho).1;have o0:sI W cI=some ⟨cI,none⟩:=by unfold sI;rw[abe i0]
    refine⟨.slice ⟨cI,off,none⟩ ⟨cI,none⟩ len cap o0 rfl rfl,?_⟩;have v0:=aZ.pos (α:=α)
    obtain⟨l,p0,hq⟩:=pP (Q:=λi (y:α)=>Py y/\off+i*aZ.sz α+aZ.sz α<=(iG c).length/\aZ.rep (ep W) y (((iG c).drop (off+i*aZ.sz α)).take (aZ.sz α))) len λi hi=>by
     have he:=h0 i hi;rw[aa5 (by omega)]at he;have⟨e0,q0,r0⟩:=ab3.1 he;obtain⟨y,hy,j0,s0⟩:=n0 _ _ _ r0;obtain⟨_,u0,k0⟩:=World.cells?_some q0;rw[l0]at u0 k0
     have d0:∀j,j < aZ.sz α->c[off+i*aZ.sz α+j]?=e0[j]?:=λj hj=>by have:=k0 j hj;rw[D.dW,D.dW]at this;rw[<-this];simp only[World.cell?,ho];rfl
     have hbound:off+i*aZ.sz α+aZ.sz α<=(iG c).length:=by have:=d0 (aZ.sz α-1) (by omega);rw[aa5 (by omega)]at this;have:=(ab2.1 this).1;unfold iG;rw[abH,ach];omega
     refine⟨y,hy,hbound,?_⟩
     have:((iG c).drop (off+i*aZ.sz α)).take (aZ.sz α)=e0:=by
      apply aco;intro j;by_cases hj:j < aZ.sz α
      ·rw[acy hj,acz]
       unfold iG
       rw[ack,acT,d0 j hj]
       cases hu:e0[j]? with
       |none=>rfl
       |some u=>rw[abi,s0 u (abb hu)];rfl
      rw[ace (by rw[acr];omega),ace (by omega)]
     rw[this];exact j0 _
    refine⟨l,.inr ⟨cI,off,cap,iG c,by rw[p0],?_,λi y hi=>⟨(hq i y hi).2.1,(hq i y hi).2.2⟩⟩,?_,λy hy=>?_⟩
    ·rw[vQ W i0,ho];rfl
    ·have:maxLen < 9223372036854775808:=by unfold maxLen;decide
     omega
    have⟨i,hi⟩:=ac8.1 hy;exact(hq i y hi).1
   |_=>cases a0
theorem Ih{t:TypeId}{n:Nat}{cs:aeN}{fuel:Nat}{x:DataW H×List MemPlace}(ht:Tryz.prog.underlying t=some (.array n 3))(a0:Tryz.prog.cellsOf t=n)
  (h:DataW.trod enc Tryz.prog W 0 sp held fuel t cs=some x):∃l:List Int,cs=l.map (.int .i64)/\l.length=n/\∀z∈l,lN z:=by
 obtain⟨xs,m,rfl,rfl,b0,i0,d0⟩:=DataW.trod_array ht h;rw[a0]at b0;have h3:Tryz.prog.underlying 3=some (.int .i64):=by kernel_rfl
 have e0:Tryz.prog.cellsOf 3=1:=by kernel_rfl
 obtain⟨l,hl,hq⟩:=pP (Q:=λi (z:Int)=>cs[i]?=some (aeP z)/\lN z) n λi hi=>by
  have:=d0 i hi;rw[e0,aa5 (by omega)]at this;obtain⟨z,hz,_,g0⟩:=DataW.trod_int h3 this;refine⟨z,?_,?_⟩
  ·have:=congrArg (λq:aeN=>q[0]?) hz
   grind
  have h0:IntKind.i64.min= -9223372036854775808/\IntKind.i64.max=9223372036854775807:=⟨by decide,by decide⟩
  simp only[Lit.wf,abc,abv,h0]at g0;unfold lN;omega
 refine⟨l,?_,hl,λz hz=>?_⟩
 ·apply aco
  grind
 ·have⟨i,hi⟩:=ac8.1 hz
  grind
end
end
section
open Go Go.D Go.ChangeShapes
theorem Hm:Tryz.prog.underlying 3=some (.int .i64):=by kernel_rfl
theorem Tj:Tryz.prog.underlying 4=some .bool:=by kernel_rfl
theorem Fo:Tryz.prog.underlying 26=some (.slice 3):=by kernel_rfl
theorem LP{k:Int}(h:(Lit.int .i64 k).wf):lN k:=by
 have a0:IntKind.i64.min= -9223372036854775808/\IntKind.i64.max=9223372036854775807:=⟨by decide,by decide⟩
 simp only[Lit.wf,abc,abv,a0]at h;unfold lN;omega
section
variable {H:Type} {enc:TypeId×aeM->H} {W:World} {sp:Nat->Bool} {held:Bool} {base:Nat}
theorem V7:∀fuel cs x,DataW.trod enc Tryz.prog W 0 sp held fuel 3 cs=some x->∃y:Int,lN y/\(∀m,aZ.rep m y cs)/\∀u∈cs,bF u:=by intro fuel cs x h;obtain⟨z,rfl,_,a0⟩:=DataW.trod_int Hm h;exact⟨z,LP a0,λm=>rfl,λu hu=>by rw[abE.1 hu];rfl⟩
theorem TB{v:aeM}{d:DataW H}{ps:List MemPlace}(a0:Value.okWide Tryz.prog W .any base 26 v)(h:DataW.Trod enc Tryz.prog W 0 sp held 26 v d ps):
  bw (sI W) v v/\∃l:List Int,Hf (ep W) l v/\l.length < 9223372036854775808/\∀y∈l,lN y:=by
 simp only[Value.okWide,Fo]at a0
 have⟨fuel,h⟩:=h
 have hv:v.cells.toList=[v]:=by
  cases v with
  |agg cs=>exfalso;revert a0;simp[Cell.okWide,Cell.ok,Fo]
  |_=>rfl
 rw[hv]at h
 obtain⟨a,l,b,c,d⟩:=uI (α:=Int) (v:=v) Fo (by kernel_rfl) V7 a0 h
 grind
theorem Uf{v:aeM}{d:DataW H}{ps:List MemPlace}(a0:Value.okWide Tryz.prog W .any base 3 v)(h:DataW.Trod enc Tryz.prog W 0 sp held 3 v d ps):
  bw (sI W) v v/\∃z,v=aeP z/\lN z:=by
 have⟨fuel,h⟩:=h;obtain⟨z,hz,_,b0⟩:=DataW.trod_int Hm h
 have hv:v=aeP z:=by
  simp only[Value.okWide,Hm]at a0
  cases v with
  |agg cs=>exfalso;revert a0;simp[Cell.okWide,Cell.ok,Hm]
  |int k n=>simpa[Value.cells]using hz
  |_=>simp[Value.cells]at hz
 subst hv;exact⟨bw.jG rfl,z,rfl,LP b0⟩
end
theorem EL{X:aK}(hX:dc Tryz.prog X){W:World}(hW:0 < W.heap.size){f:Nat}{args:aeN}{args':Array aeM}{m':M}{b:Bool}(h:C X (.func f) args (ep W) (ep W).n (.bool b) m')(hl:bK (sI W) args args'.toList):
  Calls Tryz.prog f args' W λe W'=>e=.returned (.bool b)/\Go.RowKit.Below W.heap.size W W':=by
 have⟨hn,_,n0,hc⟩:=h;have h1:=hc n0 (aa4 _) (ep W).n (aa4 _)
 have b0:eN Tryz.prog (sI W) ((ep W).wl (ep W).n) W:=by have:=DA hW;exact⟨this.sw,this.obj,this.lt,this.inj,this.kz⟩
 refine(tX ag.ok hX h1 b0 hl).mono λe w' he=>?_;obtain⟨v',e0,rfl,hv,a0⟩:=he;have d0:=hv.bM rfl;subst d0;refine⟨rfl,a0.os,a0.tape,a0.output,a0.hle,λB hB=>a0.heap B hB λb i hb hi=>?_⟩;have:=(kF hb).1;show b < min (ep W).n (ep W).n;rw[uF];omega
end
section
open Go.ChangeShapes Go.WideShapes Go.ChangeAt Go.RowKit
def vi(os:Os):World:=
 {World.holding Tryz.prog os ⟨#[], #[],[]⟩with heap:=(World.holding Tryz.prog os ⟨#[], #[],[]⟩).heap.modify 0 λ
   |.cells _ t frozen=> .cells #[.int .i64 9,.int .i64 3,.int .i64 9,.int .i64 1,.int .i64 0,.int .i64 8,.int .i64 3,.int .i64 6,.int .i64 4,.int .i64 1,.int .i64 7,.int .i64 3,.int .i64 5,.int .i64 5,.int .i64 1,.int .i64 6,.int .i64 3,.int .i64 4,.int .i64 6,.int .i64 3,.int .i64 3,.int .i64 2,.int .i64 5,.int .i64 3,.int .i64 0,.int .i64 5,.int .i64 2,.int .i64 2,.int .i64 7,.int .i64 1,.int .i64 8,.int .i64 3,.int .i64 8,.int .i64 1,.int .i64 4,.int .i64 10,.int .i64 1,.int .i64 9,.int .i64 0,.int .i64 0] t frozen
   |o=>o}
end
end Go.Proofs.YtigpcbodmjjaiaaGreatDoor
