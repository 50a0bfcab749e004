/- The frames of the run of sane(), .. -/
import Derived.Test.YtigpcbodmjjaiaaGreatDoorG11J
namespace Go.Proofs.YtigpcbodmjjaiaaGreatDoor
open Go Go.D Go.Proofs
namespace CI
set_option maxRecDepth 1000000
def d(l:Bt)(t:Nat):Ob:=.cells l t none
def I(n:Int):Φ:=.int .i64 n
def J:Φ:=.int .i64 (-1)
def W:Φ:=.int .i64 0
def Y:Φ:=.bool true
def Z:Φ:=.bool false
def O:Φ:=.slice none 0 0
def S(b n c:Nat):Φ:=.slice (some ⟨b,0,none⟩) n c
def U(b o n c:Nat):Φ:=.slice (some ⟨b,o,none⟩) n c
def Q(b:Nat):Φ:=.pointer (some ⟨b,0,none⟩)
def V(b o:Nat):Φ:=.pointer (some ⟨b,o,none⟩)
def l{α:Type}(x:α):Tr α:=.n (some x) .e .e
def k{α:Type}(x:α)(a b:Tr α):Tr α:=.n (some x) a b
def z{α:Type}(a b:Tr α):Tr α:=.n none a b
def Sp:Code->List (Array Tmp×Code×Code)
 |.seq a b=>Sp a++Sp b
 |.cond _ x y=>Sp x++Sp y
 |.block _ c |.loop c |.scope c=>Sp c
 |.rangeFunc _ ps a b=>(ps,a,b)::(Sp a++Sp b)
 |_=> []
noncomputable def lo(f i:Nat)(st:LoopState)(sJ:Option Ex)(T:Tr Φ):Ob:=match(TE.fn.get f).bind (·.body)with
 |some c=>match(Sp c)[i]? with |some (ps,a,b)=> .loop ⟨T,ps,a,b,st,sJ,1⟩ |none=> .dead
 |none=> .dead
def xb:Ob:=d [I 3,I 2,W,S 4 4 4,W,I 2] 60
def xd:Ob:=d [S 20 2 2,O,O,O,O,S 22 3 3,S 14 2 2,S 25 2 2] 43
def xe:Ob:=d [S 7 2 2,O,O,O,O] 38
def xf:Ob:=d [I 3,I 1] 53
def xg:Ob:=d [W] 3
def xh:Ob:=d [I 2] 3
def xi:Ob:=d [I 3,I 5,I 4,W,I 4,I 4,W,I 2] 145
def xj:Ob:=d [I 5,I 2,W,S 19 4 4,W,I 2] 60
def xl:Ob:=d [W,I 3,J,W] 55
def xm:Ob:=.cells [I 3,W,I 3,I 1,I 3,I 2,I 3,I 3,I 3,J,I 3,I (-2)] 53 (some 2)
def xn:Ob:=d [] 3
def xo:Ob:=d [S 7 2 2,O,O,O,O,S 9 3 3,S 1 1 1,S 12 2 2] 43
def xp:Ob:=d [I 3,J,I 3,I 1] 53
def xq:Ob:=d [J,I (-2)] 3
def xr:Ob:=d [W,W,I 2,W,W,W,W,W] 120
def xs:Ob:=d [I 5,I 3] 53
def xt:Ob:=d [I 8,S 24 1 1] 79
def xu:Ob:=d [I 9,W,W,W,O,W,W,I 3,I 5,W,I 5] 62
def xv:Ob:=d [I 5,W,W,W,O,W,W,I 3,W,J,W] 62
def xw:Ob:=d [I 1] 3
def xx:Ob:=d [I 4,W,I 8,W,I 8,I 4,I 4,I 4] 141
def xy:Ob:=d [I 2,I 3,I 1,W] 55
def xz:Ob:=d [I 7,S 23 2 2] 79
def x0:Ob:=d [I 8,W,W,W,O,W,W,I 3,W,J,W] 62
def x1:Ob:=d [S 173 2 2] 45
def x2:Ob:=d [I 2,I 5,I 3,I 1] 55
def x3:Ob:=d [I 3,I 2,W,S 17 4 4,W,I 2] 60
def x4:Ob:=d [I 5,I 2,W,S 6 4 4,W,I 2] 60
def x5:Ob:=d [I 5,W,W,W,O,W,W,I 3,W,J,W,I 8,W,W,W,O,W,W,I 3,W,J,W,I 9,W,W,W,O,W,W,I 3,I 5,W,I 5] 62
def x6:Ob:=d [W,W,I 4,W,I 4,I 4,W,I 4] 141
def x7:Ob:=.cells [W,I 1,I 2] 3 (some 1)
def x8:Ob:=d [I 3,I 1,I 5,I 3] 53
def x9:Ob:=d [I 3,J] 53
def xba:Ob:=d [I 3,S 14 2 2] 75
def Sc:Ob:=d [I 3,S 1 1 1] 75
def xbd:Ob:=d [I 3,I 3] 53
def YZ:Ob:=d [I 8,S 11 1 1] 79
def S6:Ob:=d [I 3] 3
def Wy:Ob:=d [S 20 2 2,O,O,O,O] 38
def YY:Ob:=d [I 5] 3
def xbk:Ob:=d [I 3,W] 53
noncomputable def xbl:Ob:=lo 75 0 .exhausted none (k O (l (.func (.func 77) #[] #[Q 42,Q 46])) (k (Q 47) (l O) (l (.func (.func 77) #[] #[Q 42,Q 46]))))
def YX:Ob:=d [I 7,S 10 2 2] 79
noncomputable def xbp:Ob:=lo 75 0 .exhausted none (k O (l (.func (.func 77) #[] #[Q 110,Q 114])) (k (Q 115) (l O) (l (.func (.func 77) #[] #[Q 110,Q 114]))))
def xbr:Ob:=d [I 3,I 2] 53
def xbu:Ob:=d [I 3,I (-2)] 53
def aem:Tr Φ:=.e
def Zk:Tr Ob:=.e
def Zl:Fr:=⟨aem,⟨Zk,1,1⟩⟩
def Zh:Tr Φ:=k Z (k (Q 13) (k (S 40 2 2) (k (S 173 2 2) (z (k (Q 13) (l O) .e) (l (.tuple #[S 173 2 2,W]))) (k (.agg #[I 1,I 2]) (l W) (l (.tuple #[S 213 3 3,W])))) (k (S 213 3 3) (z (l (V 9 22)) (l (.agg #[S 7 2 2,O,O,O,O,S 9 3 3,S 1 1 1,S 12 2 2]))) (k (.agg #[I 1,W]) (l (S 108 3 3)) (l W)))) (k (S 108 3 3) (k (S 193 3 3) (z (l (V 13 5)) (l W)) (k (.agg #[S 7 2 2,O,O,O,O,S 9 3 3,S 1 1 1,S 12 2 2]) (l (.agg #[S 7 2 2,O,O,O,O,S 9 3 3,S 1 1 1,S 12 2 2])) (l (.tuple #[S 213 3 3,W])))) (k O (z (l (.tuple #[S 40 2 2,W])) (l (S 193 3 3))) (k (.agg #[S 20 2 2,O,O,O,O,S 22 3 3,S 14 2 2,S 25 2 2]) (l (.tuple #[S 173 2 2,W])) (l (.agg #[S 7 2 2,O,O,O,O,S 9 3 3,S 1 1 1,S 12 2 2])))))) (k (Q 26) (k W (k W (z (k (.agg #[S 7 2 2,O,O,O,O]) (l (I 290)) .e) (l (S 173 2 2))) (k (S 1 1 1) (l (.tuple #[S 108 3 3,W])) (l (.agg #[S 7 2 2,O,O,O,O,S 9 3 3,S 1 1 1,S 12 2 2])))) (k W (z (l (.agg #[I 9,W,W,W,O,W,W,I 3,I 5,W,I 5])) (l (.tuple #[S 193 3 3,W]))) (k (S 14 2 2) (l W) (l (.tuple #[O,I 290]))))) (k W (k W (z (l (S 9 3 3)) (l (.tuple #[S 193 3 3,W]))) (k (.agg #[I 1,I 2]) (l (.tuple #[S 108 3 3,W])) (l (S 213 3 3)))) (k (I 290) (z (l (S 40 2 2)) (l W)) (k (.tuple #[S 40 2 2,W]) (l (.agg #[S 20 2 2,O,O,O,O,S 22 3 3,S 14 2 2,S 25 2 2])) (l (.tuple #[O,I 290]))))))
noncomputable def acA:Tr Ob:=z (k (d [I 1,I 2] 69) (k xb (k (d [I 3,I 2,W,S 4 4 4,W,I 2,I 5,I 2,W,S 6 4 4,W,I 2] 60) (k xd (k xe (k xf (l xg) (l xh)) (k xi (l xj) .e)) (k (d [S 108 3 3] 45) (k xl (l xm) (l xn)) (k xd (l xo) .e))) (k xp (k xi (k xq (l .dead) (l xr)) (k xs (l xt) .e)) (k xb (k xe (l xu) .e) (k xv (l xw) .e)))) (k xs (k xx (k xe (k .dead (l xf) (l xo)) (k xy (l xz) .e)) (k xv (k x0 (l xt) (l xw)) (k x1 (l xr) .e))) (k xe (k xo (k xm (l xq) (l xw)) (k x2 (l x2) .e)) (k xg (k xe (l x3) .e) (k x3 (l xn) .e))))) (k x4 (k x5 (k x6 (k xb (k xh (l .dead) (l x7)) (k xf (l x8) .e)) (k xv (k .dead (l x9) (l xg)) (k xba (l Sc) .e))) (k (d [I 7,S 23 2 2,I 8,S 24 1 1] 79) (k xo (k .dead (l xbd) (l xg)) (k YZ (l xz) .e)) (k xb (k xb (l S6) .e) (k S6 (l xh) .e)))) (k xo (k Wy (k x4 (k xbd (l xh) (l Sc)) (k .dead (l xy) .e)) (k S6 (k xe (l xu) (l (.cells [I 1,I 2,W] 3 (some 1)))) (k xv (l xg) .e))) (k xe (k Sc (k x9 (l .dead) (l xh)) (k xd (l (.cells [I 2,I 3,I 1,W,I 2,I 5,I 3,I 1] 55 (some 4))) .e)) (k .dead (k x4 (l YY) .e) (k x3 (l xw) .e)))))) (k xo (k x6 (k xe (k x3 (k S6 (k .dead (l xbk) (l x7)) (k x8 (l xi) .e)) (k xbl (k xl (l x9) (l xh)) (k xba (l Sc) .e))) (k xs (k x8 (k x9 (l S6) (l xr)) (k YX (l xs) .e)) (k x9 (k S6 (l Wy) .e) (k Wy (l .dead) .e)))) (k (d [I 7,S 10 2 2,I 8,S 11 1 1] 79) (k (d [I 3,I 2,W,S 17 4 4,W,I 2,I 5,I 2,W,S 19 4 4,W,I 2] 60) (k YY (k S6 (l .dead) (l Sc)) (k xy (l xy) .e)) (k xe (k xu (l x0) (l .dead)) (k xbp (l xr) .e))) (k xu (k Sc (k x9 (l x9) (l .dead)) (k (.cells [W,I 3,J,W,I 2,I 3,I 1,W,I 2,I 5,I 3,I 1] 55 (some 4)) (l x2) .e)) (k xbk (k YY (l Wy) .e) (k x9 (l xg) .e))))) (k xx (k xp (k xj (k xb (k xbr (l xw) (l xo)) (k YX (l xf) .e)) (k xe (k YZ (l xz) (l (.cells [I 2,W] 3 (some 1)))) (k (.cells [.func (.func 76) #[] #[Q 110,Q 113]] 155 none) (l Sc) .e))) (k xd (k xo (k xbu (l .dead) (l .dead)) (k x2 (l xt) .e)) (k (d [S 75 6 6] 35) (k xb (l x3) .e) (k x3 (l x7) .e)))) (k (d [I 1,I 2,I 1,W] 69) (k x5 (k x4 (k .dead (l xbr) (l Sc)) (k YZ (l .dead) .e)) (k xb (k xu (l Wy) .e) (k Wy (l .dead) .e))) (k xu (k (.cells [.func (.func 76) #[] #[Q 42,Q 45]] 155 none) (k YX (l xbu) (l x7)) (k xd (l xo) .e)) (k xw (k x4 (l xj) .e) (k (d [S 143 6 6] 35) (l .dead) .e))))))
noncomputable def SO:Fr:=⟨Zh,⟨acA,214,1⟩⟩
noncomputable def SX:aK:=yh
theorem YO:dJ Tryz.prog SX:=Jx
noncomputable def LS:List Code:=match Tryz.f6.body with |some c=>flat c |none=> []
noncomputable abbrev XS:Code->Fr->Option (Ex×Fr):=bQ TE (cC TE SX 300) 300
end CI
end Go.Proofs.YtigpcbodmjjaiaaGreatDoor
