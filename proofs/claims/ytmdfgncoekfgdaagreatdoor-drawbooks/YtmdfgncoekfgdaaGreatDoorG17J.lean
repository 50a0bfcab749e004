/- A body, leaf by leaf. -/
import Derived.Test.YtmdfgncoekfgdaaGreatDoorG4J
import Derived.Test.YtmdfgncoekfgdaaGreatDoorG11J
import Derived.Test.YtmdfgncoekfgdaaGreatDoorG14J
import Derived.Test.YtmdfgncoekfgdaaGreatDoorG12J
import Derived.Shelf.Strings.BuilderK
import Derived.Shelf.Strings.OnBuilder
import Derived.Shelf.Strings.Search3
import Derived.Shelf.Strings.Count
import Derived.Shelf.Strings.SplitCore
import Derived.Test.YtmdfgncoekfgdaaGreatDoorChecked
import Derived.Lib.Join
import Derived.Lib.UnsafeStr
import Derived.Lib.Bytealg
import Derived.Lib.Split
import Derived.Lib.SplitLaws
import Derived.Lib.CountLaws
import Derived.Lib.IndexBytes
import Derived.Lib.IndexLaws
namespace Go.D
open Go
section
variable {E:Env} {call:aF} {n:Nat}
def flat:Code->List Code
 |.seq a b=>flat a++flat b
 |c=> [c]
def eD(f:Code->Fr->Option (Ex×Fr)):List Code->Fr->Option (Ex×Fr)
 |[],fr=>some (.normal,fr)
 |c::r,fr=>match f c fr with
  |some (.normal,fr)=>eD f r fr
  |r=>r
theorem mT(f:Code->Fr->Option (Ex×Fr)):∀(a b:List Code) (fr:Fr),eD f (a++b) fr=match eD f a fr with |some (.normal,fr)=>eD f b fr |r=>r
 |[],b,fr=>rfl
 |c::a,b,fr=>by
  show(match f c fr with |some (.normal,fr)=>eD f (a++b) fr |r=>r)=match(match f c fr with |some (.normal,fr)=>eD f a fr |r=>r)with |some (.normal,fr)=>eD f b fr |r=>r
  cases h:f c fr with
  |none=>rfl
  |some p=>
   obtain⟨e,fr1⟩:=p
   cases e with
   |normal=>exact mT f a b fr1
   |exit id=>rfl
   |ret=>rfl
theorem kG:∀(c:Code) (fr:Fr),bh E call n c fr=eD (bh E call n) (flat c) fr
 |.seq a b,fr=>by
  rw[flat,mT,<-kG a fr]
  show(match bh E call n a fr with |some (.normal,fr)=>bh E call n b fr |r=>r)=_
  cases h:bh E call n a fr with
  |none=>rfl
  |some p=>
   obtain⟨e,fr1⟩:=p
   cases e with
   |normal=>exact kG b fr1
   |exit id=>rfl
   |ret=>rfl
 |.skip,fr=>eA _ fr
 |.region _ _ _,fr=>eA _ fr
 |.cond _ _ _,fr=>eA _ fr
 |.block _ _,fr=>eA _ fr
 |.loop _,fr=>eA _ fr
 |.exit _,fr=>eA _ fr
 |.ret,fr=>eA _ fr
 |.label _,fr=>eA _ fr
 |.goto _,fr=>eA _ fr
 |.rangeFunc _ _ _ _,fr=>eA _ fr
 |.scope _,fr=>eA _ fr
 |.refuse _,fr=>eA _ fr
where
 eA (c:Code) (fr:Fr):bh E call n c fr=eD (bh E call n) [c] fr:=by
  unfold eD
  cases h:bh E call n c fr with
  |none=>rfl
  |some p=>
   obtain⟨e,fr1⟩:=p
   cases e <;>rfl
theorem jl{f:Code->Fr->Option (Ex×Fr)}{l:List Code}{fr fr':Fr}(a k:Nat)(h:eD f ((l.drop a).take k) fr=some (.normal,fr')):eD f (l.drop a) fr=eD f (l.drop (a+k)) fr':=by
 have e:l.drop a=(l.drop a).take k++l.drop (a+k):=by rw[<-List.drop_drop,List.take_append_drop]
 rw[e,mT,h]
theorem wY{X:aF}{f:FuncId}{fn:Func}{c:Code}{args:List Value}{m:M}{fr:Fr}{v:Value}(hX:X (.func f) args m=none)(hf:E.fn.get f=some fn)(hb:fn.body=some c)(hle:Nat.ble args.length fn.ntmps=true)
  (he:bh E (bV E X n) n c {T:=enter args 0,m:={m with low:=m.n}}=some (.ret,fr)) (hr:result? E fn fr.T fr.m=some v) (hv:bY v=true) (hl:Nat.ble m.n fr.m.low=true):bV E X (n+1) (.func f) args m=some (v,m):=by
 unfold bV
 rw[hX,hf]
 dsimp only
 rw[hb]
 dsimp only
 rw[hle,cond_true,he]
 dsimp only
 rw[hr]
 dsimp only
 rw[hv,hl]
 rfl
end
end Go.D
namespace Go.D
open Go
section
variable {P:Program}
noncomputable def yV(X Y:aF):aF:=fun f args m=>match X f args m with |some r=>some r |none=>Y f args m
theorem mH{X Y:aF}{f:Fn}{args:List Value}{m:M}{r:Value×M}(h:yV X Y f args m=some r):X f args m=some r\/Y f args m=some r:=by
 unfold yV at h
 cases hx:X f args m with
 |none=>rw[hx]at h;exact .inr h
 |some r'=>rw[hx]at h;exact .inl h
theorem vY{X Y:aF}(hX:cB P X)(hY:cB P Y):cB P (yV X Y):=
 ⟨fun f args m v m' h=>(mH h).elim (hX.func f args m v m') (hY.func f args m v m'),
  fun l args m v m' h=>(mH h).elim (hX.yield l args m v m') (hY.yield l args m v m'),
  fun f args m v m' h=>(mH h).elim (hX.bw f args m v m') (hY.bw f args m v m'),
  fun a m v m' b h=>(mH h).elim (hX.FD a m v m' b) (hY.FD a m v m' b)⟩
theorem sO{X Y:aF}{f:Fn}{args:List Value}{m:M}(h1:X f args m=none)(h2:Y f args m=none):yV X Y f args m=none:=by
 unfold yV;rw[h1];exact h2
end
section
variable {E:Env} {call:aF}
theorem tP{ops:Array Oper}:∀(a b:List Oper) (j:Nat) (fr:Fr),eY E call ops (a++b) j fr=match eY E call ops a j fr with |some fr=>eY E call ops b (j+a.length) fr |none=>none
 |[],b,j,fr=>rfl
 |o::a,b,j,fr=>by
  have hj:j+(o::a).length=(j+1)+a.length:=by simp only[List.length_cons];omega
  rw[List.cons_append,eX,eX,hj]
  cases cg ops fr.T o with
  |false=>simp only[cond_false];exact tP a b _ _
  |true=>
   simp only[cond_true]
   cases cJ o.op E call fr.T {fr.m with low:=fr.m.n}with
   |none=>rfl
   |some r=>
    dsimp only
    cases (Nat.ble fr.m.n r.2.low ||(dC ops j ||sE ops j fr.m fr.T o.op))with
    |false=>rfl
    |true=>simp only[cond_true];exact tP a b _ _
theorem Jm{ops:Array Oper}{l:List Oper}{fr fr':Fr}(a k j:Nat)(hk:((l.drop a).take k).length=k)(h:eY E call ops ((l.drop a).take k) j fr=some fr'):eY E call ops (l.drop a) j fr=eY E call ops (l.drop (a+k)) (j+k) fr':=by
 have e:l.drop a=(l.drop a).take k++l.drop (a+k):=by rw[<-List.drop_drop,List.take_append_drop]
 rw[e,tP,h,hk]
end
end Go.D
namespace Go.D
open Go
section
variable {P:Program} {E:Env} {X:aF} {σ:Sg} {m m1:M} {w w':World} {f:Nat} {args:List Value} {v:Value} {args':Array Value}
theorem Cl.calls(hE:E.OK P)(hX:cB P X)(hc:Cl E X (.func f) args m m.n v m1)(hs:dB P σ m w)(hl:aT σ args args'.toList):
  CallsIn Fence.wide 0 P f args' w (cy P σ (m.wl m.n) w v (m1.wl m.n))/\(callFunc f args').run P w=.ok (.enter f args') w:=by
 obtain⟨hn,_,n0,h⟩:=hc
 have h1:=h (n0+1) (by omega) m.n (Nat.le_refl _)
 rw[Nat.min_self]at h1
 exact oj hE hX (ka hE hX n0) h1 (hs.low m.n) hl
theorem cy.flat(hs:dB P σ m w)(hv:bL v=true){e:Ending}(h:cy P σ (m.wl m.n) w v (m1.wl m.n) e w'):cy P σ m w v m e w':=by
 obtain⟨v',σ',rfl,hv',he⟩:=h
 have:=hv'.aK hv
 subst this
 exact⟨_,σ,rfl,.flat _ hv,Ev.kept hs (fun B hB=>he.heap B hB fun b i hb _=>hs.mV b i hb) he.hle he.os he.tape he.output⟩
theorem Ev.row(hs:dB P σ m w){σ':Sg}(he:Ev P σ (m.wl m.n) w σ' (m1.wl m.n) w'){b n:Nat}{cs:List Value}{t:TypeId}{k:Nat}(hb:m.n<=b)(hg:m1.get b=.cells cs t (some k))(hf:∀u∈cs,bL u=true){u':Value}
  (hv:aJ σ' (.slice (some ⟨b,0,none⟩) n n) u') (hn:0 < n):∃τ,aJ τ (.slice (some ⟨m.n,0,none⟩) n n) u'/\Ev P σ m w τ (m.push (.cells cs t (some k))) w':=by
 have go:∀i:BI,σ' b=some i->Ev P σ m w (σ.add m.n i) (m.push (.cells cs t (some k))) w':=by
  intro i hi
  have hσb:σ b=none:=by
   cases h:σ b with
   |none=>rfl
   |some j=>have:=hs.mV b j h;omega
  obtain⟨_,hnew⟩:=he.new b i hi hσb
  have hnew:w.heap.size<=i.bX:=by
   rcases hnew with h |⟨b0,i0,h1,_,h2⟩
   ·exact h
   ·have:=hs.mV b0 i0 h1
    have h2:m.n<=b0:=h2
    omega
  have hobj:Holds σ' i w' (.cells cs t (some k)):=by
   have:=he.nG.obj b i hi
   rw[show(m1.wl m.n).get b=.cells cs t (some k)from hg]at this
   exact this
  obtain⟨bX,gr⟩:=i
  refine Ev.M7 hs (fun B hB=>he.heap B hB fun b i hb _=>hs.mV b i hb) he.hle hnew (he.nG.lt b _ hi) ?_ he.os he.tape he.output
  obtain⟨c',h1,h2,h3,h4⟩:=hobj
  refine⟨c',h1,h2,⟨h3.1,fun j u u' hu hu'=>?_⟩,h4⟩
  have hff:=hf u (List.mem_of_getElem? hu)
  have:=(h3.2 j u u' hu hu').aK hff
  subst this
  exact .flat _ hff
 have hadd:∀i:BI,(σ.add m.n i) m.n=some i:=fun i=>by unfold Sg.add;rw[if_pos rfl]
 cases hv with
 |flat _ h=>cases h
 |slice a i _ _ h hsn hgr=>exact⟨_,.slice ⟨m.n,0,none⟩ i n n (hadd i) rfl hgr,go i h⟩
 |fq a i _ _ c' k' sz N h hsn hgr hc=>exact⟨_,.fq ⟨m.n,0,none⟩ i n n c' k' sz N (hadd i) rfl hgr hc,go i h⟩
 |empty a a' i c' k' sz N h hgr ho=>omega
end
end Go.D
namespace Go.Proofs.YtmdfgncoekfgdaaGreatDoor
open Go Go.D
variable {m:M}
def oP:Nat->List Value->Option (List Pl)
 |0,_=>some []
 |n+1,.int .i64 x::.int .i64 y::r=>match oP n r with |some l=>some (⟨x,y⟩::l) |none=>none
 |_+1,_=>none
noncomputable def uX(m:M)(v:Value):Option (List Pl):=
 match v with
 |.slice none 0 0=>some []
 |.slice (some a) n _=>match a.spot,m.get a.block with
  |none,.cells cs e _=>bif Nat.beq e 98 && Nat.ble (a.off+n*2) cs.length then oP n (cs.drop a.off)else none
  |_,_=>none
 |_=>none
theorem sM:∀{n:Nat} {cs:List Value} {l:List Pl},oP n cs=some l->l.length=n/\∀i p,l[i]?=some p->(cs.drop (i*2)).take 2=p.c
 |0,_,l,h=>by cases h;exact⟨rfl,fun i p hi=>by cases hi⟩
 |n+1,cs,l,h=>by
  unfold oP at h
  split at h
  ·omega
  ·rename_i n' x y r hn
   cases hn
   cases hr:oP n r with
   |none=>rw[hr]at h;cases h
   |some l'=>
    rw[hr]at h
    cases h
    obtain⟨h1,h2⟩:=sM hr
    refine⟨by simp[h1],fun i p hi=>?_⟩
    match i with
    |0=>cases hi;rfl
    |i+1=>
     have:=h2 i p (by simpa using hi)
     rw[show(i+1)*2=i*2+1+1 by omega,List.drop_succ_cons,List.drop_succ_cons]
     exact this
  ·cases h
theorem sF{v:Value}{l:List Pl}(h:uX m v=some l):Sl m l v:=by
 unfold uX at h
 split at h
 ·cases h;exact .inl ⟨rfl,rfl⟩
 ·rename_i a n c
  split at h
  ·rename_i cs e g hsp hg
   cases hc:(Nat.beq e 98 && Nat.ble (a.off+n*2) cs.length)with
   |false=>rw[hc]at h;cases h
   |true=>
    rw[hc,cond_true]at h
    rw[Bool.and_eq_true]at hc
    obtain rfl:=Nat.eq_of_beq_eq_true hc.1
    have hle:=Nat.le_of_ble_eq_true hc.2
    obtain⟨h1,h2⟩:=sM h
    obtain⟨ab,ao,sp⟩:=a
    have hsp:sp=none:=hsp
    subst hsp
    refine .inr ⟨ab,ao,c,cs,g,by rw[h1],hg,by rw[h1];exact hle,fun i p hi=>?_⟩
    have:=h2 i p hi
    rw[List.drop_drop]at this
    exact this
  ·cases h
 ·cases h
noncomputable def oO(m:M):Nat->List Value->Option (List Un)
 |0,_=>some []
 |n+1,.int .i64 a::.int .i64 b::.int .i64 c::w::.int .i64 d::.int .i64 e::r=>match uX m w,oO m n r with |some s,some l=>some (⟨a,b,c,s,d,e⟩::l) |_,_=>none
 |_+1,_=>none
noncomputable def FO(m:M)(v:Value):Option (List Un):=
 match v with
 |.slice none 0 0=>some []
 |.slice (some a) n _=>match a.spot,m.get a.block with
  |none,.cells cs e _=>bif Nat.beq e 87 && Nat.ble (a.off+n*6) cs.length then oO m n (cs.drop a.off)else none
  |_,_=>none
 |_=>none
theorem sL:∀{n:Nat} {cs:List Value} {l:List Un},oO m n cs=some l->l.length=n/\∀i u,l[i]?=some u->∃w,(cs.drop (i*6)).take 6=u.c w/\Sl m u.shape w
 |0,_,l,h=>by cases h;exact⟨rfl,fun i p hi=>by cases hi⟩
 |n+1,cs,l,h=>by
  unfold oO at h
  split at h
  ·omega
  ·rename_i n' a b c w d e r hn
   cases hn
   cases hs:uX m w with
   |none=>rw[hs]at h;cases h
   |some s=>
    cases hr:oO m n r with
    |none=>rw[hs,hr]at h;cases h
    |some l'=>
     rw[hs,hr]at h
     cases h
     obtain⟨h1,h2⟩:=sL hr
     refine⟨by simp[h1],fun i p hi=>?_⟩
     match i with
     |0=>cases hi;exact⟨w,rfl,sF hs⟩
     |i+1=>
      have:=h2 i p (by simpa using hi)
      rw[show(i+1)*6=i*6+1+1+1+1+1+1 by omega,List.drop_succ_cons,List.drop_succ_cons,List.drop_succ_cons,List.drop_succ_cons,List.drop_succ_cons,List.drop_succ_cons]
      exact this
  ·cases h
theorem FN{v:Value}{l:List Un}(h:FO m v=some l):Sl m l v:=by
 unfold FO at h
 split at h
 ·cases h;exact .inl ⟨rfl,rfl⟩
 ·rename_i a n c
  split at h
  ·rename_i cs e g hsp hg
   cases hc:(Nat.beq e 87 && Nat.ble (a.off+n*6) cs.length)with
   |false=>rw[hc]at h;cases h
   |true=>
    rw[hc,cond_true]at h
    rw[Bool.and_eq_true]at hc
    obtain rfl:=Nat.eq_of_beq_eq_true hc.1
    have hle:=Nat.le_of_ble_eq_true hc.2
    obtain⟨h1,h2⟩:=sL h
    obtain⟨ab,ao,sp⟩:=a
    have hsp:sp=none:=hsp
    subst hsp
    refine .inr ⟨ab,ao,c,cs,g,by rw[h1],hg,by rw[h1];exact hle,fun i u hi=>?_⟩
    obtain⟨w,hw,hs⟩:=h2 i u hi
    rw[List.drop_drop]at hw
    exact⟨w,hw,hs⟩
  ·cases h
 ·cases h
noncomputable def qh:aF:=fun fn args m=>
 match fn with
 |.func f=>
  bif Nat.beq f 157 then
   match args with
   |[v]=>match uX m v with |some l=>bif Nat.ble l.length 1000 then some (.bool (aP l),m)else none |none=>none
   |_=>none
  else bif Nat.beq f 119 then
   match args with
   |[v,.int .i64 x,.int .i64 y]=>match uX m v with |some l=>bif Nat.ble l.length 1000 then some (.int .i64 (nv l x y),m)else none |none=>none
   |_=>none
  else bif Nat.beq f 60 then
   match args with
   |[.agg a,.bool b]=>match a.toList with
    |[v]=>match FO m v with
     |some us=>bif Nat.ble us.length 1000 && us.all (fun u=>aP u.shape)then some (FG 40 40 (.slice (some ⟨m.n,0,none⟩) 1600 1600),m.push (.cells ((dE us b).map (.int .i64)) 3 (some 1)))else none
     |none=>none
    |_=>none
   |_=>none
  else none
 |_=>none
end Go.Proofs.YtmdfgncoekfgdaaGreatDoor
namespace Go.Proofs.YtmdfgncoekfgdaaGreatDoor
open Go Go.D
variable {m:M}
theorem AM:dF Pe:=⟨fun _ _ _ _=>rfl⟩
theorem tw:∀{l:List Int} {cs:List Value},cs.length=l.length*1->(∀i x,l[i]?=some x->chunk cs 1 i=[.int .i64 x])->cs=l.map (.int .i64)
 |[],cs,h,_=>List.length_eq_zero_iff.1 (by simpa using h)
 |x::l,a::cs,h,hc=>by
  have h0:=hc 0 x rfl
  simp only[chunk,Nat.zero_mul,List.drop_zero,List.take_succ_cons,List.take_zero]at h0
  injection h0 with h0
  rw[h0,List.map_cons,<-tw (l:=l) (cs:=cs) (by simp at h;omega) (fun i y hi=>by
   have:=hc (i+1) y (by simpa using hi)
   simp only[chunk,Nat.mul_one,List.drop_succ_cons]at this⊢
   exact this)]
 |x::l,[],h,_=>by simp at h
theorem vq{us:List Un}{b:Bool}:(dE us b).length=1600:=by unfold dE;rw[ky]
theorem zO{σ:Sg}{m1:M}{w w':World}{v1:Value}{l:List Int}(hs:dB Tryz.prog σ m w)(ho:Ow m.n m1 l v1)(hl:0 < l.length){e:Ending}(h:cy Tryz.prog σ (m.wl m.n) w (FG 40 40 v1) (m1.wl m.n) e w'):
  cy Tryz.prog σ m w (FG 40 40 (.slice (some ⟨m.n,0,none⟩) l.length l.length)) (m.push (.cells (l.map (.int .i64)) 3 (some 1))) e w':=by
 obtain⟨v',σ',rfl,hv,he⟩:=h
 rcases ho with⟨_,rfl⟩ |⟨b,cs,rfl,_,hb,hg,hcl,hch⟩
 ·simp at hl
 have hcs:cs=l.map (.int .i64):=tw hcl hch
 subst hcs
 cases hv with
 |flat _ h=>cases h
 |agg a a' ha h1=>
  obtain⟨τ,hvs,hev⟩:∃τ,aJ τ (.slice (some ⟨m.n,0,none⟩) l.length l.length) ((a'.toList[2]?).getD undef)/\Ev Tryz.prog σ m w τ (m.push (.cells (l.map (.int .i64)) 3 (some 1))) w':=by
   have hlt:2 < a'.size:=by rw[<-ha];exact Nat.lt_succ_self _
   have e2:a'[2]?=some a'[2]:=Array.getElem?_eq_getElem hlt
   have:=h1 2 _ _ rfl e2
   have e3:(a'.toList[2]?).getD undef=a'[2]:=by rw[Array.getElem?_toList,e2];rfl
   rw[e3]
   exact Ev.row hs he hb hg (fun u hu=>by obtain⟨z,_,rfl⟩:=List.mem_map.1 hu;rfl) this hl
  refine⟨.agg a',τ,rfl,.agg _ _ ha fun j u u' hu hu'=>?_,hev⟩
  match j with
  |0=>
   have:=(h1 0 _ _ rfl hu').aK rfl
   cases hu
   rw[this]
   exact .flat _ rfl
  |1=>
   have:=(h1 1 _ _ rfl hu').aK rfl
   cases hu
   rw[this]
   exact .flat _ rfl
  |2=>
   cases hu
   have e3:(a'.toList[2]?).getD undef=u':=by rw[Array.getElem?_toList,hu'];rfl
   rw[<-e3]
   exact hvs
  |j+3=>simp at hu
theorem Eg:cB Tryz.prog qh:=by
 refine⟨fun f args m v m' hx σ w args' hs hl=>?_,fun l args m v m' hx=>by simp[qh]at hx,fun f args m v m' hx=>?_,fun a m v m' b hx=>by
  have e:qh (.func uk) [.pointer (some a)] m=none:=rfl
  rw[e]at hx
  cases hx⟩
 ·unfold qh at hx
  dsimp only at hx
  cases h1:Nat.beq f 157 with
  |true=>
   obtain rfl:=Nat.eq_of_beq_eq_true h1
   rw[h1,cond_true]at hx
   split at hx
   ·rename_i v0
    split at hx
    ·rename_i l hp
     cases hlen:Nat.ble l.length 1000 with
     |false=>rw[hlen]at hx;cases hx
     |true=>
      rw[hlen,cond_true]at hx
      cases hx
      have hle:=Nat.le_of_ble_eq_true hlen
      have hc:=Cl.calls af.ok AL (fw AM (sF hp) (by omega)) hs hl
      exact⟨hc.1.mono fun e w' h=>h.flat hs rfl,hc.2⟩
    ·cases hx
   ·cases hx
  |false=>
   rw[h1,cond_false]at hx
   cases h2:Nat.beq f 119 with
   |true=>
    obtain rfl:=Nat.eq_of_beq_eq_true h2
    rw[h2,cond_true]at hx
    split at hx
    ·rename_i v0 x y
     split at hx
     ·rename_i l hp
      cases hlen:Nat.ble l.length 1000 with
      |false=>rw[hlen]at hx;cases hx
      |true=>
       rw[hlen,cond_true]at hx
       cases hx
       have hle:=Nat.le_of_ble_eq_true hlen
       have hc:=Cl.calls af.ok AL (CT AM (sF hp) (by omega) x y) hs hl
       exact⟨hc.1.mono fun e w' h=>h.flat hs rfl,hc.2⟩
     ·cases hx
    ·cases hx
   |false=>
    rw[h2,cond_false]at hx
    cases h3:Nat.beq f 60 with
    |false=>rw[h3]at hx;cases hx
    |true=>
     obtain rfl:=Nat.eq_of_beq_eq_true h3
     rw[h3,cond_true]at hx
     split at hx
     ·rename_i a b
      split at hx
      ·rename_i v0 ha
       split at hx
       ·rename_i us hp
        cases hc:(Nat.ble us.length 1000 && us.all (fun u=>aP u.shape))with
        |false=>rw[hc]at hx;cases hx
        |true=>
         rw[hc,cond_true]at hx
         rw[Bool.and_eq_true]at hc
         have hle:=Nat.le_of_ble_eq_true hc.1
         have hval:∀u∈us,aP u.shape=true:=fun u hu=>by
          have:=List.all_eq_true.1 hc.2 u hu
          exact this
         cases hx
         obtain⟨al⟩:=a
         have ha:al=[v0]:=ha
         subst ha
         obtain⟨v1,m1,hcl,hx1,ho⟩:=wQ (behind:=b) AM (FN hp) hval hle
         have hcc:=Cl.calls af.ok AL hcl hs hl
         refine⟨hcc.1.mono fun e w' h=>?_,hcc.2⟩
         have:=zO hs ho (by rw[vq];decide) h
         rw[vq]at this
         exact this
       ·cases hx
      ·cases hx
     ·cases hx
 ·unfold qh at hx
  cases f with
  |func f=>
   dsimp only at hx
   cases h1:Nat.beq f 157 with
   |true=>
    rw[h1,cond_true]at hx
    split at hx
    ·split at hx
     ·rename_i l hp
      cases hlen:Nat.ble l.length 1000 with
      |false=>rw[hlen]at hx;cases hx
      |true=>rw[hlen,cond_true]at hx;cases hx;exact LK.refl
     ·cases hx
    ·cases hx
   |false=>
    rw[h1,cond_false]at hx
    cases h2:Nat.beq f 119 with
    |true=>
     rw[h2,cond_true]at hx
     split at hx
     ·split at hx
      ·rename_i l hp
       cases hlen:Nat.ble l.length 1000 with
       |false=>rw[hlen]at hx;cases hx
       |true=>rw[hlen,cond_true]at hx;cases hx;exact LK.refl
      ·cases hx
     ·cases hx
    |false=>
     rw[h2,cond_false]at hx
     cases h3:Nat.beq f 60 with
     |false=>rw[h3]at hx;cases hx
     |true=>
      rw[h3,cond_true]at hx
      split at hx
      ·split at hx
       ·split at hx
        ·rename_i us hp
         cases hc:(Nat.ble us.length 1000 && us.all (fun u=>aP u.shape))with
         |false=>rw[hc]at hx;cases hx
         |true=>rw[hc,cond_true]at hx;cases hx;exact LK.push
        ·cases hx
       ·cases hx
      ·cases hx
  |_=>cases hx
end Go.Proofs.YtmdfgncoekfgdaaGreatDoor
namespace Go.Proofs
open Go.Shelf
def Tryz.fP:Go.Shelf.Ren:=⟨fun |169=>77 |n=>n,fun |70=>140 |9=>9 |0=>0 |72=>142 |37=>52 |127=>203 |3=>3 |5=>5 |n=>n,fun |n=>n⟩
theorem Tryz.rR:Go.Proofs.Lays.n169 Tryz.prog Tryz.fP:={
 mixed:=by kernel_rfl
 f169:=Tryz.func77.trans (congrArg some (by kernel_rfl))
 t0:=Tryz.underlying0
 a0:=Tryz.isAgg0
 z0:=Tryz.sizeOf0
 v0:=Tryz.zeroValue0
 t3:=Tryz.underlying3
 a3:=Tryz.isAgg3
 z3:=Tryz.sizeOf3
 v3:=Tryz.zeroValue3
 t9:=Tryz.underlying9
 a9:=Tryz.isAgg9
 z9:=Tryz.sizeOf9
 v9:=Tryz.zeroValue9
 t37:=Tryz.underlying52
 a37:=Tryz.isAgg52
 z37:=Tryz.sizeOf52
 v37:=Tryz.zeroValue52
 t70:=Tryz.underlying140
 a70:=Tryz.isAgg140
 z70:=Tryz.sizeOf140
 v70:=Tryz.zeroValue140
 t72:=Tryz.underlying142
 a72:=Tryz.isAgg142
 z72:=Tryz.sizeOf142
 v72:=Tryz.zeroValue142
 t127:=Tryz.underlying203
 a127:=Tryz.isAgg203
 z127:=Tryz.sizeOf203
 v127:=Tryz.zeroValue203}
theorem Tryz.eM:Builder.Extra Tryz.prog Tryz.fP:={
 sizeBuilder:=by kernel_rfl
 liesBuilder:=by kernel_rfl
 t5:=Tryz.underlying5
 a5:=Tryz.isAgg5
 z5:=Tryz.sizeOf5
 v5:=Tryz.zeroValue5
 infoByte:=by kernel_rfl
 cellsByte:=by kernel_rfl
 sizeByte:=by kernel_rfl
 neB5:=by decide}
def Tryz.jW:Go.Shelf.Ren:=⟨fun |156=>79 |165=>142 |166=>75 |169=>77 |240=>141 |241=>194 |276=>193 |277=>290 |n=>n,fun |31=>42 |9=>9 |3=>3 |4=>4 |0=>0 |20=>20 |72=>142 |76=>145 |70=>140 |37=>52 |75=>144 |127=>203 |164=>268 |5=>5 |80=>148 |n=>n,fun |n=>n⟩
theorem Tryz.rS:Go.Proofs.Lays.n156 Tryz.prog Tryz.jW:={
 mixed:=by kernel_rfl
 f156:=Tryz.func79.trans (congrArg some (by kernel_rfl))
 f165:=Tryz.func142.trans (congrArg some (by kernel_rfl))
 f166:=Tryz.func75.trans (congrArg some (by kernel_rfl))
 f169:=Tryz.func77.trans (congrArg some (by kernel_rfl))
 f240:=Tryz.func141.trans (congrArg some (by kernel_rfl))
 f241:=Tryz.func194.trans (congrArg some (by kernel_rfl))
 f276:=Tryz.func193.trans (congrArg some (by kernel_rfl))
 f277:=Tryz.func290.trans (congrArg some (by kernel_rfl))
 t0:=Tryz.underlying0
 a0:=Tryz.isAgg0
 z0:=Tryz.sizeOf0
 v0:=Tryz.zeroValue0
 t3:=Tryz.underlying3
 a3:=Tryz.isAgg3
 z3:=Tryz.sizeOf3
 v3:=Tryz.zeroValue3
 t4:=Tryz.underlying4
 a4:=Tryz.isAgg4
 z4:=Tryz.sizeOf4
 v4:=Tryz.zeroValue4
 t9:=Tryz.underlying9
 a9:=Tryz.isAgg9
 z9:=Tryz.sizeOf9
 v9:=Tryz.zeroValue9
 t20:=Tryz.underlying20
 a20:=Tryz.isAgg20
 z20:=Tryz.sizeOf20
 v20:=Tryz.zeroValue20
 t31:=Tryz.underlying42
 a31:=Tryz.isAgg42
 z31:=Tryz.sizeOf42
 v31:=Tryz.zeroValue42
 t37:=Tryz.underlying52
 a37:=Tryz.isAgg52
 z37:=Tryz.sizeOf52
 v37:=Tryz.zeroValue52
 t70:=Tryz.underlying140
 a70:=Tryz.isAgg140
 z70:=Tryz.sizeOf140
 v70:=Tryz.zeroValue140
 t72:=Tryz.underlying142
 a72:=Tryz.isAgg142
 z72:=Tryz.sizeOf142
 v72:=Tryz.zeroValue142
 t75:=Tryz.underlying144
 a75:=Tryz.isAgg144
 z75:=Tryz.sizeOf144
 v75:=Tryz.zeroValue144
 t76:=Tryz.underlying145
 a76:=Tryz.isAgg145
 z76:=Tryz.sizeOf145
 v76:=Tryz.zeroValue145
 t127:=Tryz.underlying203
 a127:=Tryz.isAgg203
 z127:=Tryz.sizeOf203
 v127:=Tryz.zeroValue203
 t164:=Tryz.underlying268
 a164:=Tryz.isAgg268
 z164:=Tryz.sizeOf268
 v164:=Tryz.zeroValue268}
theorem Tryz.eN:Builder.Extra Tryz.prog Tryz.jW:={
 sizeBuilder:=by kernel_rfl
 liesBuilder:=by kernel_rfl
 t5:=Tryz.underlying5
 a5:=Tryz.isAgg5
 z5:=Tryz.sizeOf5
 v5:=Tryz.zeroValue5
 infoByte:=by kernel_rfl
 cellsByte:=by kernel_rfl
 sizeByte:=by kernel_rfl
 neB5:=by decide}
def Tryz.zq:Go.Shelf.Ren:=⟨fun |143=>197 |219=>294 |217=>341 |225=>342 |224=>343 |267=>344 |266=>373 |314=>374 |n=>n,fun |9=>9 |3=>3 |4=>4 |5=>5 |46=>224 |146=>396 |51=>301 |n=>n,fun |1=>0 |n=>n⟩
theorem Tryz.KQ:Go.Proofs.Lays.n143 Tryz.prog Tryz.zq:={
 mixed:=by kernel_rfl
 f143:=Tryz.func197.trans (congrArg some (by kernel_rfl))
 f217:=Tryz.func341.trans (congrArg some (by kernel_rfl))
 f219:=Tryz.func294.trans (congrArg some (by kernel_rfl))
 f224:=Tryz.func343.trans (congrArg some (by kernel_rfl))
 f225:=Tryz.func342.trans (congrArg some (by kernel_rfl))
 f266:=Tryz.func373.trans (congrArg some (by kernel_rfl))
 f267:=Tryz.func344.trans (congrArg some (by kernel_rfl))
 f314:=Tryz.func374.trans (congrArg some (by kernel_rfl))
 t3:=Tryz.underlying3
 a3:=Tryz.isAgg3
 z3:=Tryz.sizeOf3
 v3:=Tryz.zeroValue3
 t4:=Tryz.underlying4
 a4:=Tryz.isAgg4
 z4:=Tryz.sizeOf4
 v4:=Tryz.zeroValue4
 t5:=Tryz.underlying5
 a5:=Tryz.isAgg5
 z5:=Tryz.sizeOf5
 v5:=Tryz.zeroValue5
 t9:=Tryz.underlying9
 a9:=Tryz.isAgg9
 z9:=Tryz.sizeOf9
 v9:=Tryz.zeroValue9
 t46:=Tryz.underlying224
 a46:=Tryz.isAgg224
 z46:=Tryz.sizeOf224
 v46:=Tryz.zeroValue224
 t51:=Tryz.underlying301
 a51:=Tryz.isAgg301
 z51:=Tryz.sizeOf301
 v51:=Tryz.zeroValue301
 t146:=Tryz.underlying396
 a146:=Tryz.isAgg396
 z146:=Tryz.sizeOf396
 v146:=Tryz.zeroValue396
 g1:=by kernel_rfl}
def Tryz.zr:Go.Shelf.Ren:=⟨fun |138=>196 |195=>291 |218=>293 |143=>197 |219=>294 |217=>341 |225=>342 |224=>343 |267=>344 |266=>373 |314=>374 |n=>n,fun |9=>9 |3=>3 |4=>4 |5=>5 |0=>0 |46=>224 |146=>396 |51=>301 |n=>n,fun |1=>0 |n=>n⟩
theorem Tryz.KR:Go.Proofs.Lays.n138 Tryz.prog Tryz.zr:={
 mixed:=by kernel_rfl
 f138:=Tryz.func196.trans (congrArg some (by kernel_rfl))
 f143:=Tryz.func197.trans (congrArg some (by kernel_rfl))
 f195:=Tryz.func291.trans (congrArg some (by kernel_rfl))
 f217:=Tryz.func341.trans (congrArg some (by kernel_rfl))
 f218:=Tryz.func293.trans (congrArg some (by kernel_rfl))
 f219:=Tryz.func294.trans (congrArg some (by kernel_rfl))
 f224:=Tryz.func343.trans (congrArg some (by kernel_rfl))
 f225:=Tryz.func342.trans (congrArg some (by kernel_rfl))
 f266:=Tryz.func373.trans (congrArg some (by kernel_rfl))
 f267:=Tryz.func344.trans (congrArg some (by kernel_rfl))
 f314:=Tryz.func374.trans (congrArg some (by kernel_rfl))
 t0:=Tryz.underlying0
 a0:=Tryz.isAgg0
 z0:=Tryz.sizeOf0
 v0:=Tryz.zeroValue0
 t3:=Tryz.underlying3
 a3:=Tryz.isAgg3
 z3:=Tryz.sizeOf3
 v3:=Tryz.zeroValue3
 t4:=Tryz.underlying4
 a4:=Tryz.isAgg4
 z4:=Tryz.sizeOf4
 v4:=Tryz.zeroValue4
 t5:=Tryz.underlying5
 a5:=Tryz.isAgg5
 z5:=Tryz.sizeOf5
 v5:=Tryz.zeroValue5
 t9:=Tryz.underlying9
 a9:=Tryz.isAgg9
 z9:=Tryz.sizeOf9
 v9:=Tryz.zeroValue9
 t46:=Tryz.underlying224
 a46:=Tryz.isAgg224
 z46:=Tryz.sizeOf224
 v46:=Tryz.zeroValue224
 t51:=Tryz.underlying301
 a51:=Tryz.isAgg301
 z51:=Tryz.sizeOf301
 v51:=Tryz.zeroValue301
 t146:=Tryz.underlying396
 a146:=Tryz.isAgg396
 z146:=Tryz.sizeOf396
 v146:=Tryz.zeroValue396
 g1:=by kernel_rfl}
def Tryz.qN:Go.Shelf.Ren:=⟨fun |221=>144 |268=>195 |138=>196 |143=>197 |195=>291 |197=>292 |218=>293 |219=>294 |260=>340 |217=>341 |225=>342 |224=>343 |267=>344 |266=>373 |314=>374 |n=>n,fun |9=>9 |3=>3 |31=>42 |4=>4 |0=>0 |105=>330 |21=>21 |5=>5 |46=>224 |119=>392 |139=>395 |138=>394 |146=>396 |51=>301 |n=>n,fun |1=>0 |3=>1 |4=>2 |n=>n⟩
theorem Tryz.KP:Go.Proofs.Lays.n221 Tryz.prog Tryz.qN:={
 mixed:=by kernel_rfl
 f138:=Tryz.func196.trans (congrArg some (by kernel_rfl))
 f143:=Tryz.func197.trans (congrArg some (by kernel_rfl))
 f195:=Tryz.func291.trans (congrArg some (by kernel_rfl))
 f197:=Tryz.func292.trans (congrArg some (by kernel_rfl))
 f217:=Tryz.func341.trans (congrArg some (by kernel_rfl))
 f218:=Tryz.func293.trans (congrArg some (by kernel_rfl))
 f219:=Tryz.func294.trans (congrArg some (by kernel_rfl))
 f221:=Tryz.func144.trans (congrArg some (by kernel_rfl))
 f224:=Tryz.func343.trans (congrArg some (by kernel_rfl))
 f225:=Tryz.func342.trans (congrArg some (by kernel_rfl))
 f260:=Tryz.func340.trans (congrArg some (by kernel_rfl))
 f266:=Tryz.func373.trans (congrArg some (by kernel_rfl))
 f267:=Tryz.func344.trans (congrArg some (by kernel_rfl))
 f268:=Tryz.func195.trans (congrArg some (by kernel_rfl))
 f314:=Tryz.func374.trans (congrArg some (by kernel_rfl))
 t0:=Tryz.underlying0
 a0:=Tryz.isAgg0
 z0:=Tryz.sizeOf0
 v0:=Tryz.zeroValue0
 t3:=Tryz.underlying3
 a3:=Tryz.isAgg3
 z3:=Tryz.sizeOf3
 v3:=Tryz.zeroValue3
 t4:=Tryz.underlying4
 a4:=Tryz.isAgg4
 z4:=Tryz.sizeOf4
 v4:=Tryz.zeroValue4
 t5:=Tryz.underlying5
 a5:=Tryz.isAgg5
 z5:=Tryz.sizeOf5
 v5:=Tryz.zeroValue5
 t9:=Tryz.underlying9
 a9:=Tryz.isAgg9
 z9:=Tryz.sizeOf9
 v9:=Tryz.zeroValue9
 t21:=Tryz.underlying21
 a21:=Tryz.isAgg21
 z21:=Tryz.sizeOf21
 v21:=Tryz.zeroValue21
 t31:=Tryz.underlying42
 a31:=Tryz.isAgg42
 z31:=Tryz.sizeOf42
 v31:=Tryz.zeroValue42
 t46:=Tryz.underlying224
 a46:=Tryz.isAgg224
 z46:=Tryz.sizeOf224
 v46:=Tryz.zeroValue224
 t51:=Tryz.underlying301
 a51:=Tryz.isAgg301
 z51:=Tryz.sizeOf301
 v51:=Tryz.zeroValue301
 t105:=Tryz.underlying330
 a105:=Tryz.isAgg330
 z105:=Tryz.sizeOf330
 v105:=Tryz.zeroValue330
 t119:=Tryz.underlying392
 a119:=Tryz.isAgg392
 z119:=Tryz.sizeOf392
 t138:=Tryz.underlying394
 a138:=Tryz.isAgg394
 z138:=Tryz.sizeOf394
 v138:=Tryz.zeroValue394
 t139:=Tryz.underlying395
 a139:=Tryz.isAgg395
 z139:=Tryz.sizeOf395
 v139:=Tryz.zeroValue395
 t146:=Tryz.underlying396
 a146:=Tryz.isAgg396
 z146:=Tryz.sizeOf396
 v146:=Tryz.zeroValue396
 g1:=by kernel_rfl
 g3:=by kernel_rfl
 g4:=by kernel_rfl}
end Go.Proofs
namespace Go.D
open Go
section
variable {P:Program} {σ:Sg} {m m':M} {w w':World}
def bytes?:List Value->Option (List UInt8)
 |[]=>some []
 |.int .u8 x::r=>bif decide (0<=x) && decide (x<=255)then match bytes? r with |some l=>some (UInt8.ofNat x.toNat::l) |none=>none else none
 |_=>none
theorem tW:∀{vs:List Value} {l:List UInt8},bytes? vs=some l->vs=Lib.byteCells l
 |[],l,h=>by cases h;rfl
 |v::r,l,h=>by
  unfold bytes? at h
  split at h
  ·rename_i h0;cases h0
  ·rename_i x r' h0
   cases h0
   cases hc:(decide (0<=x) && decide (x<=255))with
   |false=>rw[hc]at h;cases h
   |true=>
    rw[hc,cond_true]at h
    rw[Bool.and_eq_true,decide_eq_true_eq,decide_eq_true_eq]at hc
    split at h
    ·rename_i l' hl
     cases h
     have hx:((UInt8.ofNat x.toNat).toNat:Int)=x:=by
      rw[UInt8.toNat_ofNat']
      have:=Int.toNat_of_nonneg hc.1
      omega
     rw[tW hl]
     simp only[Lib.byteCells,List.map_cons,hx]
    ·cases h
  ·cases h
def BZ:List Value->Option (List ByteArray)
 |[]=>some []
 |.string x::r=>match BZ r with |some l=>some (x::l) |none=>none
 |_=>none
theorem uO:∀{vs:List Value} {l:List ByteArray},BZ vs=some l->vs=l.map .string
 |[],l,h=>by cases h;rfl
 |v::r,l,h=>by
  unfold BZ at h
  split at h
  ·rename_i h0;cases h0
  ·rename_i x r' h0
   cases h0
   split at h
   ·rename_i l' hl
    cases h
    rw[List.map_cons,<-uO hl]
   ·cases h
  ·cases h
noncomputable def QP(T:Nat)(args:List Value)(m:M):Option (Value×M):=
 match args with
 |[.pointer (some a)]=>
  match m.get a.block with
  |.cells [.pointer none,s] e none=>bif Nat.beq e T && Nat.beq a.off 0 && a.spot.isNone then some (.tuple #[],m.set a.block (.cells [.pointer (some a),s] e none))else none
  |.cells [.pointer (some a'),_] e none=>bif Nat.beq e T && Nat.beq a.off 0 && a.spot.isNone && Nat.beq a'.block a.block && Nat.beq a'.off 0 && a'.spot.isNone then some (.tuple #[],m)else none
  |_=>none
 |_=>none
noncomputable def Aq(T U:Nat)(args:List Value)(m:M):Option (Value×M):=
 match args with
 |[.pointer (some a)]=>
  match m.get a.block with
  |.cells [_,.slice none 0 0] e none=>bif Nat.beq e T && Nat.beq a.off 0 && a.spot.isNone then some (.string ⟨#[]⟩,m)else none
  |.cells [_,.slice (some r) n c] e none=>
   bif Nat.beq e T && Nat.beq a.off 0 && a.spot.isNone && Nat.beq r.off 0 && r.spot.isNone && Nat.ble 1 n && Nat.ble n c then
    match m.get r.block with
    |.cells cs e' _=>
     bif Nat.beq e' U && Nat.ble n cs.length && Nat.ble n 1048576 then
      match bytes? (cs.take n)with
      |some l=>some (.string ⟨l.toArray⟩,m.set r.block .dead)
      |none=>none
     else none
    |_=>none
   else none
  |_=>none
 |_=>none
noncomputable def P3(args:List Value)(m:M):Option (Value×M):=
 match args with
 |[.slice none 0 0,.string _]=>some (.string ⟨#[]⟩,m)
 |[.slice (some a) n c,.string sep]=>
  match m.get a.block with
  |.cells cs _ _=>
   bif a.spot.isNone && Nat.ble 1 n && Nat.ble n c && Nat.ble (a.off+n) cs.length && Nat.ble n 1048576 then
    match BZ ((cs.drop a.off).take n)with
    |some xs=>bif Nat.ble (Lib.join (xs.map (·.data.toList)) sep.data.toList).length 1048576 then some (.string ⟨(Lib.join (xs.map (·.data.toList)) sep.data.toList).toArray⟩,m)else none
    |none=>none
   else none
  |_=>none
 |_=>none
def cutAt(c:UInt8):List UInt8->List (List UInt8)
 |[]=> [[]]
 |x::r=>bif x==c then []::cutAt c r else match cutAt c r with |h::t=>(x::h)::t |[]=> [[x]]
noncomputable def P8(S:Nat)(args:List Value)(m:M):Option (Value×M):=
 match args with
 |[.string s,.string t,.int .i64 0,.int .i64 (-1)]=>
  match t.data.toList with
  |[c]=>bif Nat.ble s.data.toList.length 1048576 then
    some (.slice (some ⟨m.n,0,none⟩) (cutAt c s.data.toList).length (cutAt c s.data.toList).length,m.push (.cells ((cutAt c s.data.toList).map fun l=> .string ⟨l.toArray⟩) S none))
   else none
  |_=>none
 |_=>none
structure uI where
 cc:Nat
 st:Nat
 jn:Nat
 gs:Nat
 T:Nat
 U:Nat
 S:Nat
noncomputable def sj(N:uI):aF:=fun fn args m=>
 match fn with
 |.func f=>
  bif Nat.beq f N.cc then QP N.T args m
  else bif Nat.beq f N.st then Aq N.T N.U args m
  else bif Nat.beq f N.jn then P3 args m
  else bif Nat.beq f N.gs then P8 N.S args m
  else none
 |_=>none
def lM(b:Nat):Value:=.pointer (some ⟨b,0,none⟩)
structure uf(P:Program)(N:uI):Prop where
 Jg:∀f,(f=N.cc\/f=N.st\/f=N.jn\/f=N.gs)->∀args w,(callFunc f args).run P w=.ok (.enter f args) w
 fresh:∀(b:Nat) (w:World),w.cell? ⟨b,0,none⟩=some (.pointer none)->w.shape? b=some (N.T,2)->w.frozen? ⟨b,0,none⟩=false->
  Calls P N.cc #[lM b] w fun e w'=>e=.returned (.tuple #[])/\w'=w.setCell ⟨b,0,none⟩ (lM b)
 used:∀(b:Nat) (w:World),w.cell? ⟨b,0,none⟩=some (lM b)->Calls P N.cc #[lM b] w fun e w'=>e=.returned (.tuple #[])/\w'=w
 L6:∀(b:Nat) (p:Value) (w:World),w.heap[b]?=some (.cells #[p,.slice none 0 0] N.T (0,0))->Calls P N.st #[lM b] w fun e w'=>e=.returned (.string ⟨#[]⟩)/\w'.heap=w.heap/\w'.os=w.os/\w'.tape=w.tape/\w'.output=w.output
 str:∀(b g c:Nat) (p:Value) (cur:Array Value) (l:List UInt8) (w:World),w.heap[b]?=some (.cells #[p,.slice (some ⟨g,0,none⟩) l.length c] N.T (0,0))->w.heap[g]?=some (.cells cur N.U (0,0))->l≠ []->l.length<=c->l.length<=cur.size->l.length<=1048576->
  cur.toList.take l.length=Lib.byteCells l->Calls P N.st #[lM b] w fun e w'=>e=.returned (.string ⟨l.toArray⟩)/\(∀B,B≠g->w'.heap[B]?=w.heap[B]?)/\w'.heap.size=w.heap.size/\w'.os=w.os/\w'.tape=w.tape/\w'.output=w.output
 Mg:∀(a:Option Addr) (c:Nat) (sep:ByteArray) (w:World),Calls P N.jn #[.slice a 0 c,.string sep] w fun e w'=>e=.returned (.string ⟨#[]⟩)/\w'=w
 join:∀(bk o c:Nat) (xs:List ByteArray) (sep:ByteArray) (w:World),(∀(j:Nat) x,xs[j]?=some x->w.cell? ⟨bk,o+j,none⟩=some (.string x))->bk < w.heap.size->xs.length<=1048576->xs.length<=c->
  (Lib.join (xs.map (·.data.toList)) sep.data.toList).length<=1048576->Calls P N.jn #[.slice (some ⟨bk,o,none⟩) xs.length c,.string sep] w fun e w'=>e=.returned (.string ⟨(Lib.join (xs.map (·.data.toList)) sep.data.toList).toArray⟩)/\Go.RowKit.Below w.heap.size w w'
 split:∀(s:ByteArray) (c:UInt8) (w:World),s.data.toList.length<=1048576->Calls P N.gs #[.string s,.string ⟨#[c]⟩,.int .i64 0,.int .i64 (-1)] w fun e w'=>
  e=.returned (.slice (some ⟨w.heap.size,0,none⟩) (cutAt c s.data.toList).length (cutAt c s.data.toList).length)/\w'=w.alloc (.cells ((cutAt c s.data.toList).map fun l=>Value.string ⟨l.toArray⟩).toArray N.S)
theorem sf{a b:Value}{args':Array Value}(hl:aT σ [a,b] args'.toList):∃a' b',args'= #[a',b']/\aJ σ a a'/\aJ σ b b':=by
 obtain⟨a',l1,h1,ha,hl1⟩:=hl.cases
 obtain⟨b',l2,h2,hb,hl2⟩:=hl1.cases
 have:=hl2.nil_eq
 refine⟨a',b',Array.ext' ?_,ha,hb⟩
 rw[h1,h2,this]
theorem wg{a:Value}{args':Array Value}(hl:aT σ [a] args'.toList):∃a',args'= #[a']/\aJ σ a a':=by
 obtain⟨a',l1,h1,ha,hl1⟩:=hl.cases
 have:=hl1.nil_eq
 refine⟨a',Array.ext' ?_,ha⟩
 rw[h1,this]
theorem mw{a b:Value}{row:Array Value}(h:aT σ [a,b] (row.toList.take 2))(hs:row.size=2):∃a' b',row= #[a',b']/\aJ σ a a'/\aJ σ b b':=by
 have e:row.toList.take 2=row.toList:=List.take_of_length_le (by rw[Array.length_toList,hs];exact Nat.le_refl _)
 rw[e]at h
 exact sf h
theorem mD{v:Value}(hf:aJ σ v v)(hs:dB P σ m w)(h:Ev P σ m w σ m' w'):cy P σ m w v m' (.returned v) w':=⟨v,σ,rfl,hf,h⟩
theorem QO{N:uI}(K:uf P N){args:List Value}{v:Value}(h:QP N.T args m=some (v,m'))(hs:dB P σ m w){args':Array Value}(hl:aT σ args args'.toList):Calls P N.cc args' w (cy P σ m w v m'):=by
 unfold QP at h
 split at h
 ·rename_i a
  obtain⟨x',rfl,hx⟩:=wg hl
  obtain⟨i,hi,hsp,rfl⟩:=hx.dO
  split at h
  ·rename_i s e hg
   cases hc:(Nat.beq e N.T && Nat.beq a.off 0 && a.spot.isNone)with
   |false=>rw[hc]at h;cases h
   |true=>
    rw[hc,cond_true]at h
    cases h
    simp only[Bool.and_eq_true]at hc
    obtain⟨⟨c1,c2⟩,_⟩:=hc
    obtain rfl:=Nat.eq_of_beq_eq_true c1
    have c2:=Nat.eq_of_beq_eq_true c2
    rw[c2]
    obtain⟨row,hr1,hr2,hr3,hr4,hr5⟩:=hs.cells hi hg
    obtain⟨p',s',rfl,hp,hs'⟩:=mw hr3 hr5
    have:=hp.aK rfl
    subst this
    refine(K.fresh i.bX w (by simp[World.cell?,hr1]) (by simp[World.shape?,hr1]) (by simp[World.frozen?,hr1])).mono ?_
    rintro en w2 ⟨rfl,rfl⟩
    have hheap:∀B,(w.setCell ⟨i.bX,0,none⟩ (lM i.bX)).heap[B]?=if B=i.bX then some (.cells #[lM i.bX,s'] N.T (0,0))else w.heap[B]?:=by
     intro B
     simp only[World.setCell,Array.getElem?_modify]
     by_cases hB:i.bX=B
     ·subst hB
      rw[if_pos rfl,if_pos rfl,hr1]
      rfl
     ·rw[if_neg hB,if_neg (fun q=>hB q.symm)]
    refine mD .undef hs (Ev.write hs hi (by rw[hg];exact fun q=>by cases q) ?_ (fun B hB=>by rw[hheap,if_neg hB]) (by simp[World.setCell]) rfl rfl rfl)
    refine⟨#[lM i.bX,s'],by rw[hheap,if_pos rfl],by simp,⟨rfl,fun j u u' hu hu'=>?_⟩,hr4,rfl⟩
    match j with
    |0=>
     cases hu
     have:lM i.bX=u':=by simpa using hu'
     rw[<-this]
     have:=aJ.ptr a i hi hsp
     rw[c2]at this
     exact this
    |1=>
     cases hu
     have:s'=u':=by simpa using hu'
     rw[<-this]
     exact hs'
    |j+2=>simp at hu
  ·rename_i a' s e hg
   cases hc:(Nat.beq e N.T && Nat.beq a.off 0 && a.spot.isNone && Nat.beq a'.block a.block && Nat.beq a'.off 0 && a'.spot.isNone)with
   |false=>rw[hc]at h;cases h
   |true=>
    rw[hc,cond_true]at h
    cases h
    simp only[Bool.and_eq_true]at hc
    obtain⟨⟨⟨⟨⟨c1,c2⟩,_⟩,c4⟩,c5⟩,_⟩:=hc
    have c2:=Nat.eq_of_beq_eq_true c2
    have c4:=Nat.eq_of_beq_eq_true c4
    have c5:=Nat.eq_of_beq_eq_true c5
    rw[c2]
    obtain⟨row,hr1,hr2,hr3,hr4,hr5⟩:=hs.cells hi hg
    obtain⟨p',s',rfl,hp,hs'⟩:=mw hr3 hr5
    obtain⟨i',hi',_,rfl⟩:=hp.dO
    rw[c4,hi]at hi'
    cases hi'
    refine(K.used i.bX w (by simp[World.cell?,hr1,c5,lM])).mono ?_
    rintro en w2 ⟨rfl,rfl⟩
    exact mD .undef hs (.refl hs)
  ·cases h
 ·cases h
theorem GO{N:uI}(K:uf P N){a:Addr}{v:Value}{b:Nat}(h:Aq N.T N.U [.pointer (some a)] m=some (v,m'))(hb:ny m a=some b):
  m.get b≠.dead/\m'=m.set b .dead/\∀σ w (args':Array Value),dB P σ m w->aT σ [.pointer (some a)] args'.toList->
   ∃i,σ b=some i/\Calls P N.st args' w fun e w'=>cy P σ m w v m' e w'/\∀B,B≠i.bX->w'.heap[B]?=w.heap[B]?:=by
 unfold Aq at h
 dsimp only at h
 unfold ny at hb
 split at h
 ·rename_i p e hg
  rw[hg]at hb
  cases hb
 ·rename_i p r n c e hg
  rw[hg]at hb
  cases hb
  rw[cond_eq_ite]at h
  split at h
  ·rename_i hc
   simp only[Bool.and_eq_true]at hc
   obtain⟨⟨⟨⟨⟨⟨c1,c2⟩,_⟩,c4⟩,c5⟩,c6⟩,c7⟩:=hc
   have c7:=Nat.le_of_ble_eq_true c7
   obtain rfl:=Nat.eq_of_beq_eq_true c1
   have c2:=Nat.eq_of_beq_eq_true c2
   have c4:=Nat.eq_of_beq_eq_true c4
   have c6:=Nat.le_of_ble_eq_true c6
   split at h
   ·rename_i cs e' g hg2
    rw[cond_eq_ite]at h
    split at h
    ·rename_i hd
     simp only[Bool.and_eq_true]at hd
     obtain⟨⟨d1,d2⟩,d3⟩:=hd
     obtain rfl:=Nat.eq_of_beq_eq_true d1
     have d2:=Nat.le_of_ble_eq_true d2
     have d3:=Nat.le_of_ble_eq_true d3
     split at h
     ·rename_i l hby
      cases h
      have hb':=tW hby
      have hlen:l.length=n:=by
       have:=congrArg List.length hb'
       rw[Lib.byteCells_length,List.length_take]at this
       omega
      refine⟨by rw[hg2];exact(fun q=>by cases q),rfl,fun σ w args' hs hl=>?_⟩
      obtain⟨x',rfl,hx⟩:=wg hl
      obtain⟨i,hi,hsp,rfl⟩:=hx.dO
      rw[c2]
      obtain⟨row,hr1,hr2,hr3,hr4,hr5⟩:=hs.cells hi hg
      obtain⟨p',s',rfl,hp,hs'⟩:=mw hr3 hr5
      obtain⟨j,a',c',hj,rfl,hcase⟩:=hs'.cW
      have ha':a'=⟨j.bX,r.off,none⟩/\c<=c':=by
       rcases hcase with⟨_,h2,h3⟩ |⟨h2,_⟩
       ·refine⟨h2,?_⟩
        rcases h3 with⟨_,h3⟩ |⟨k,sz,M0,_,h3 |h3⟩
        ·omega
        ·omega
        ·exact h3.1
       ·omega
      obtain⟨rfl,hcc⟩:=ha'
      obtain⟨cur,hq1,hq2,hq3,hq4⟩:=hs.cells hj hg2
      have hcur:cur.toList.take l.length=Lib.byteCells l:=by
       rw[<-hb',hlen]
       have e1:(cur.toList.take cs.length).take n=cs.take n:=by
        apply List.ext_getElem?
        intro k
        by_cases hk:k < n
        ·rw[List.getElem?_take_of_lt hk,List.getElem?_take_of_lt hk]
         have hk1:k < cs.length:=by omega
         obtain⟨u,hu1,hu2⟩:=hq3.get (List.getElem?_eq_getElem hk1)
         rw[hu1,List.getElem?_eq_getElem hk1]
         have:bL cs[k]=true:=by
          have e2:cs[k]?=(Lib.byteCells l)[k]?:=by rw[<-hb',List.getElem?_take_of_lt hk]
          rw[List.getElem?_eq_getElem hk1]at e2
          unfold Lib.byteCells at e2
          rw[List.getElem?_map,List.getElem?_eq_getElem (by omega)]at e2
          simp only[Option.map_some,Option.some.injEq]at e2
          rw[e2];rfl
         rw[hu2.aK this]
        ·rw[List.getElem?_eq_none (by rw[List.length_take];omega),List.getElem?_eq_none (by rw[List.length_take];omega)]
       rw[List.take_take,Nat.min_eq_left d2]at e1
       exact e1
      refine⟨j,hj,(K.str i.bX j.bX c' p' cur l w (by have q:=hr1;rw[c4]at q;rw[hlen];exact q) hq1 (fun q=>by rw[q]at hlen;simp at hlen;omega) (by omega) (by omega) (by omega) hcur).mono ?_⟩
      rintro en w2 ⟨rfl,h1,h2,h3,h4,h5⟩
      exact⟨mD (.flat _ rfl) hs (Ev.write hs hj (by rw[hg2];exact fun q=>by cases q) trivial h1 h2 h3 h4 h5),h1⟩
     ·cases h
    ·cases h
   ·cases h
  ·cases h
 ·cases h
theorem PH{N:uI}(K:uf P N){args:List Value}{v:Value}(h:Aq N.T N.U args m=some (v,m'))(hs:dB P σ m w){args':Array Value}(hl:aT σ args args'.toList):Calls P N.st args' w (cy P σ m w v m'):=by
 have h0:=h
 unfold Aq at h
 split at h
 ·rename_i a
  split at h
  ·rename_i p e hg
   rw[cond_eq_ite]at h
   split at h
   ·rename_i hc
    cases h
    simp only[Bool.and_eq_true]at hc
    obtain⟨⟨c1,c2⟩,_⟩:=hc
    obtain⟨x',rfl,hx⟩:=wg hl
    obtain⟨i,hi,hsp,rfl⟩:=hx.dO
    obtain rfl:=Nat.eq_of_beq_eq_true c1
    have c2:=Nat.eq_of_beq_eq_true c2
    rw[c2]
    obtain⟨row,hr1,hr2,hr3,hr4,hr5⟩:=hs.cells hi hg
    obtain⟨p',s',rfl,hp,hs'⟩:=mw hr3 hr5
    have:=hs'.aK rfl
    subst this
    refine(K.L6 i.bX p' w hr1).mono ?_
    rintro en w2 ⟨rfl,h1,h2,h3,h4⟩
    exact mD (.flat _ rfl) hs (.of_heap hs h1 h2 h3 h4)
   ·cases h
  ·rename_i p r n c e hg
   obtain⟨_,_,h3⟩:=GO K h0 (b:=r.block) (by unfold ny;rw[hg])
   obtain⟨i,_,hc⟩:=h3 σ w args' hs hl
   exact hc.mono fun e w' q=>q.1
  ·cases h
 ·cases h
theorem PZ{N:uI}(K:uf P N){args:List Value}{v:Value}(h:P3 args m=some (v,m'))(hs:dB P σ m w){args':Array Value}(hl:aT σ args args'.toList):Calls P N.jn args' w (cy P σ m w v m'):=by
 unfold P3 at h
 split at h
 ·cases h
  obtain⟨x',y',rfl,hx,hy⟩:=sf hl
  obtain⟨_,_,rfl⟩:=hx.dH
  have:=hy.aK rfl
  subst this
  refine(K.Mg none 0 _ w).mono ?_
  rintro en w2 ⟨rfl,rfl⟩
  exact mD (.flat _ rfl) hs (.refl hs)
 ·rename_i a n c sep
  obtain⟨x',y',rfl,hx,hy⟩:=sf hl
  have:=hy.aK rfl
  subst this
  split at h
  ·rename_i cs e g hg
   cases hc:(a.spot.isNone && Nat.ble 1 n && Nat.ble n c && Nat.ble (a.off+n) cs.length && Nat.ble n 1048576)with
   |false=>rw[hc]at h;cases h
   |true=>
    rw[hc,cond_true]at h
    simp only[Bool.and_eq_true]at hc
    obtain⟨⟨⟨⟨_,c2⟩,c3⟩,c4⟩,c5⟩:=hc
    have c2:=Nat.le_of_ble_eq_true c2
    have c3:=Nat.le_of_ble_eq_true c3
    have c4:=Nat.le_of_ble_eq_true c4
    have c5:=Nat.le_of_ble_eq_true c5
    split at h
    ·rename_i xs hx2
     cases hd:Nat.ble (Lib.join (xs.map (·.data.toList)) sep.data.toList).length 1048576 with
     |false=>rw[hd]at h;cases h
     |true=>
      rw[hd,cond_true]at h
      cases h
      have hd:=Nat.le_of_ble_eq_true hd
      have hxs:=uO hx2
      have hlen:xs.length=n:=by
       have:=congrArg List.length hxs
       simp only[List.length_take,List.length_drop,List.length_map]at this
       omega
      obtain⟨i,a',c',hi,rfl,hcase⟩:=hx.cW
      have ha':a'=⟨i.bX,a.off,none⟩/\c<=c':=by
       rcases hcase with⟨_,h2,h3⟩ |⟨h2,_⟩
       ·refine⟨h2,?_⟩
        rcases h3 with⟨_,h3⟩ |⟨k,sz,M0,_,h3 |h3⟩
        ·omega
        ·omega
        ·exact h3.1
       ·omega
      obtain⟨rfl,hcc⟩:=ha'
      obtain⟨row,hr1,hr2,hr3,hr4⟩:=hs.cells hi hg
      have hcell:∀(k:Nat) x,xs[k]?=some x->w.cell? ⟨i.bX,a.off+k,none⟩=some (.string x):=by
       intro k x hk
       have hkn:k < n:=by
        rw[<-hlen]
        exact(List.getElem?_eq_some_iff.1 hk).1
       have e1:cs[a.off+k]?=some (.string x):=by
        have:=congrArg (fun l=>l[k]?) hxs
        simp only[List.getElem?_take,List.getElem?_drop,List.getElem?_map]at this
        rw[if_pos hkn,hk]at this
        exact this
       obtain⟨u,hu1,hu2⟩:=hr3.get e1
       rw[List.getElem?_take_of_lt (by omega)]at hu1
       have:=hu2.aK rfl
       subst this
       simp only[World.cell?,hr1]
       simpa using hu1
      have e2:(Value.slice (some ⟨i.bX,a.off,none⟩) n c')=.slice (some ⟨i.bX,a.off,none⟩) xs.length c':=by rw[hlen]
      rw[e2]
      refine(K.join i.bX a.off c' xs sep w hcell (hs.lt _ _ hi) (by omega) (by omega) hd).mono ?_
      rintro en w2 ⟨rfl,hb⟩
      exact mD (.flat _ rfl) hs (Ev.kept hs (fun B hB=>hb.block B hB) hb.size hb.os hb.tape hb.output)
    ·cases h
  ·cases h
 ·cases h
theorem P7{N:uI}(K:uf P N){args:List Value}{v:Value}(h:P8 N.S args m=some (v,m'))(hs:dB P σ m w){args':Array Value}(hl:aT σ args args'.toList):Calls P N.gs args' w (cy P σ m w v m'):=by
 unfold P8 at h
 split at h
 ·rename_i s t
  obtain⟨x',l1,h1,hx,hl1⟩:=hl.cases
  obtain⟨y',l2,h2,hy,hl2⟩:=hl1.cases
  obtain⟨z',l3,h3,hz,hl3⟩:=hl2.cases
  obtain⟨u',l4,h4,hu,hl4⟩:=hl3.cases
  have h5:=hl4.nil_eq
  have e1:=hx.aK rfl
  have e2:=hy.aK rfl
  have e3:=hz.aK rfl
  have e4:=hu.aK rfl
  have eargs:args'= #[.string s,.string t,.int .i64 0,.int .i64 (-1)]:=by
   apply Array.ext'
   rw[h1,h2,h3,h4,h5,e1,e2,e3,e4]
  subst eargs
  split at h
  ·rename_i c ht
   cases hb:Nat.ble s.data.toList.length 1048576 with
   |false=>rw[hb]at h;cases h
   |true=>
    rw[hb,cond_true]at h
    cases h
    have hb:=Nat.le_of_ble_eq_true hb
    have e:t=⟨#[c]⟩:=by
     cases t with
     |mk d=>
      congr 1
      exact Array.ext' ht
    rw[e]
    refine(K.split s c w hb).mono ?_
    rintro en w2 ⟨rfl,rfl⟩
    have hev:=Ev.mL (ob:=.cells ((cutAt c s.data.toList).map fun l=> .string ⟨l.toArray⟩) N.S none) (o:=.cells ((cutAt c s.data.toList).map fun l=>Value.string ⟨l.toArray⟩).toArray N.S) (gr:=none) hs
     ⟨_,heap_alloc_new w _,by simp,⟨by simp,fun j u u' hu hu'=>by
      rw[List.take_of_length_le (by simp)]at hu'
      simp only at hu'
      rw[hu]at hu'
      cases hu'
      obtain⟨l,_,rfl⟩:=List.mem_map.1 (List.mem_of_getElem? hu)
      exact .flat _ rfl⟩,rfl,by simp⟩
    refine⟨_,_,rfl,?_,hev⟩
    exact .slice ⟨m.n,0,none⟩ ⟨w.heap.size,none⟩ _ _ (by unfold Sg.add;rw[if_pos rfl]) rfl rfl
  ·cases h
 ·cases h
theorem Jz{T:Nat}{args:List Value}{v:Value}(h:QP T args m=some (v,m')):LK m m':=by
 unfold QP at h
 split at h
 ·split at h
  ·rename_i hg
   rw[cond_eq_ite]at h
   split at h
   ·cases h;exact LK.set (fun r q=>by rw[hg]at q;cases q)
   ·cases h
  ·rw[cond_eq_ite]at h
   split at h
   ·cases h;exact LK.refl
   ·cases h
  ·cases h
 ·cases h
theorem DQ{T U:Nat}{args:List Value}{v:Value}(h:Aq T U args m=some (v,m')):LK m m':=by
 unfold Aq at h
 split at h
 ·split at h
  ·rw[cond_eq_ite]at h
   split at h
   ·cases h;exact LK.refl
   ·cases h
  ·rw[cond_eq_ite]at h
   split at h
   ·split at h
    ·rename_i hg
     rw[cond_eq_ite]at h
     split at h
     ·split at h
      ·cases h;exact LK.set (fun r q=>by rw[hg]at q;cases q)
      ·cases h
     ·cases h
    ·cases h
   ·cases h
  ·cases h
 ·cases h
theorem Ia{args:List Value}{v:Value}(h:P3 args m=some (v,m')):LK m m':=by
 unfold P3 at h
 split at h
 ·cases h;exact LK.refl
 ·split at h
  ·rw[cond_eq_ite]at h
   split at h
   ·split at h
    ·rw[cond_eq_ite]at h
     split at h
     ·cases h;exact LK.refl
     ·cases h
    ·cases h
   ·cases h
  ·cases h
 ·cases h
theorem Ii{S:Nat}{args:List Value}{v:Value}(h:P8 S args m=some (v,m')):LK m m':=by
 unfold P8 at h
 split at h
 ·split at h
  ·rw[cond_eq_ite]at h
   split at h
   ·cases h;exact LK.push
   ·cases h
  ·cases h
 ·cases h
theorem Ap(N:uI):gW (sj N):=by
 intro f args m v m' h
 unfold sj at h
 cases f with
 |func f=>
  dsimp only at h
  simp only[cond_eq_ite]at h
  split at h
  ·exact Jz h
  ·split at h
   ·exact DQ h
   ·split at h
    ·exact Ia h
    ·split at h
     ·exact Ii h
     ·cases h
 |_=>cases h
theorem GM{N:uI}(K:uf P N)(hst:N.st=uk)(hcc:Nat.beq uk N.cc=false):cB P (sj N):=by
 refine⟨fun f args m v m' hx σ w args' hs hl=>?_,fun l args m v m' hx=>by simp[sj]at hx,Ap N,fun a m v m' b hx hb=>?_⟩
 rotate_left
 ·have h2:Nat.beq uk N.st=true:=by rw[hst];rfl
  simp only[sj,hcc,h2,cond_false,cond_true]at hx
  obtain⟨q1,q2,q3⟩:=GO K hx hb
  refine⟨q1,q2,fun σ w args' hs hl=>?_⟩
  obtain⟨i,hi,hc⟩:=q3 σ w args' hs hl
  rw[hst]at hc
  exact⟨i,hi,callsIn_wide.2 hc,by have:=K.Jg N.st (.inr (.inl rfl)) args' w;rw[hst]at this;exact this⟩
 unfold sj at hx
 dsimp only at hx
 cases h1:Nat.beq f N.cc with
 |true=>
  obtain rfl:=Nat.eq_of_beq_eq_true h1
  rw[h1,cond_true]at hx
  exact⟨callsIn_wide.2 (QO K hx hs hl),K.Jg _ (.inl rfl) _ _⟩
 |false=>
  rw[h1,cond_false]at hx
  cases h2:Nat.beq f N.st with
  |true=>
   obtain rfl:=Nat.eq_of_beq_eq_true h2
   rw[h2,cond_true]at hx
   exact⟨callsIn_wide.2 (PH K hx hs hl),K.Jg _ (.inr (.inl rfl)) _ _⟩
  |false=>
   rw[h2,cond_false]at hx
   cases h3:Nat.beq f N.jn with
   |true=>
    obtain rfl:=Nat.eq_of_beq_eq_true h3
    rw[h3,cond_true]at hx
    exact⟨callsIn_wide.2 (PZ K hx hs hl),K.Jg _ (.inr (.inr (.inl rfl))) _ _⟩
   |false=>
    rw[h3,cond_false]at hx
    cases h4:Nat.beq f N.gs with
    |true=>
     obtain rfl:=Nat.eq_of_beq_eq_true h4
     rw[h4,cond_true]at hx
     exact⟨callsIn_wide.2 (P7 K hx hs hl),K.Jg _ (.inr (.inr (.inr rfl))) _ _⟩
    |false=>rw[h4]at hx;cases hx
theorem oe{c:UInt8}:∀{l:List UInt8},(∀(k:Nat),l[k]?≠some c)->cutAt c l=[l]
 |[],_=>rfl
 |x::r,h=>by
  have hx:(x==c)=false:=by
   rw[beq_eq_false_iff_ne]
   intro e
   exact h 0 (by simp[e])
  have:=oe (l:=r) (fun k=>h (k+1))
  unfold cutAt
  rw[hx,this]
  rfl
theorem tQ{c:UInt8}:∀{l:List UInt8} {i:Nat},l[i]?=some c->(∀(k:Nat),k < i->l[k]?≠some c)->cutAt c l=l.take i::cutAt c (l.drop (i+1))
 |[],i,h,_=>by cases h
 |x::r,0,h,_=>by
  have:x=c:=by simpa using h
  subst this
  rw[cutAt]
  simp
 |x::r,i+1,h,hk=>by
  have hx:(x==c)=false:=by
   rw[beq_eq_false_iff_ne]
   intro e
   exact hk 0 (by omega) (by simp[e])
  have:=tQ (l:=r) (i:=i) (by simpa using h) (fun k hki=>by have:=hk (k+1) (by omega);simpa using this)
  rw[cutAt,hx,this]
  rfl
theorem sn(c:UInt8):∀(k:Nat) (l:List UInt8),l.count c<=k->Lib.splitK [c] 0 k l=cutAt c l
 |0,l,h=>by
  rw[Lib.splitK,oe]
  intro j hj
  have:=List.count_pos_iff.2 (List.mem_of_getElem? hj)
  omega
 |k+1,l,h=>by
  rw[Lib.splitK,Lib.index_one]
  by_cases hi:Lib.indexByte l c= -1
  ·rw[if_pos (by simp[hi]),oe (Lib.indexByte_none hi)]
  ·have hge:=Lib.indexByte_ge l c
   obtain⟨o,ho⟩:∃o:Nat,Lib.indexByte l c=o:=⟨(Lib.indexByte l c).toNat,by omega⟩
   obtain⟨h1,h2⟩:=Lib.indexByte_some ho
   rw[if_neg (by simp;exact hi),ho,tQ h1 h2]
   have e:((o:Int)).toNat=o:=rfl
   rw[e]
   simp only[Nat.add_zero,List.length_cons,List.length_nil,Nat.zero_add]
   rw[sn c k]
   have hlt:=(List.getElem?_eq_some_iff.1 h1).1
   have e2:l=l.take o++c::l.drop (o+1):=by
    have e3:l[o]=c:=by rw[List.getElem?_eq_getElem hlt]at h1;exact Option.some.inj h1
    rw[<-e3,<-List.drop_eq_getElem_cons hlt,List.take_append_drop]
   have e4:=congrArg (List.count c) e2
   rw[List.count_append,List.count_cons_self]at e4
   omega
theorem Ar(c:UInt8)(s:ByteArray):Lib.splitB ⟨#[c]⟩ 0 (Lib.countB s ⟨#[c]⟩) s=(cutAt c s.data.toList).map fun l=>⟨l.toArray⟩:=by
 have h:=Lib.splitB_data ⟨#[c]⟩ 0 (Lib.countB s ⟨#[c]⟩) s
 rw[sn c _ _ (by rw[Lib.countB];exact Nat.le_of_eq (Lib.count_one _ _).symm)]at h
 rw[<-h,List.map_map]
 have:((fun l:List UInt8=>(⟨l.toArray⟩:ByteArray))∘ fun x:ByteArray=>x.data.toList)=id:=by
  funext x
  cases x
  simp
 rw[this,List.map_id]
end
end Go.D
namespace Go.Proofs
open Go.Shelf Go.RowKit
section
variable {P:Program} {ρ:Ren}
set_option maxHeartbeats 2000000 in
set_option maxRecDepth 100000 in
theorem tZ(L:Lays.n169 P ρ)(X:Builder.Extra P ρ)(b:Nat)(a:Option Addr)(n cap:Nat)(q:Option Addr)(s:ByteArray)(w w2:World)(c1:w.drew.cell? ⟨b,1,none⟩=some (.slice a n cap))
  (hSD:(Builtin.unsafeSliceData_ #[(ρ.t 37)] (ρ.t 127) #[.slice a n cap]).run P w.drew=.ok (.pointer q) w.drew)
  (hUS:(Builtin.unsafeString_ #[(ρ.t 127),(ρ.t 3)] (ρ.t 9) #[.pointer q,.int .i64 n]).run P w.drew=.ok (.string s) w2):
  Calls P (ρ.f 169) #[.pointer (some ⟨b,0,none⟩)] w fun e w'=>e=.returned (.string s)/\w'=w2:=by
 have mixed:=L.mixed
 have t72:=L.t72;have a72:=L.a72;have z72:=L.z72;have v72:=L.v72;have u72:=run_underlying L.t72
 have t70:=L.t70;have a70:=L.a70;have z70:=L.z70;have v70:=L.v70;have u70:=run_underlying L.t70
 have t37:=L.t37;have a37:=L.a37;have z37:=L.z37;have v37:=L.v37;have u37:=run_underlying L.t37
 have t127:=L.t127;have a127:=L.a127;have z127:=L.z127;have v127:=L.v127;have u127:=run_underlying L.t127
 have t3:=L.t3;have a3:=L.a3;have z3:=L.z3;have v3:=L.v3;have u3:=run_underlying L.t3
 have t9:=L.t9;have a9:=L.a9;have z9:=L.z9;have v9:=L.v9;have u9:=run_underlying L.t9
 have t5:=X.t5;have a5:=X.a5;have z5:=X.z5;have v5:=X.v5;have u5:=run_underlying X.t5
 go_enter L.f169,Body.n169_ntmps ρ
 go_wp2
 go_region_o
 all_goals (go_wp2;go_ret;exact⟨rfl,rfl⟩)
end
def PG:D.uI:=⟨141,77,79,144,142,5,9⟩
theorem zD(w:World)(g n:Nat){B:Nat}(hB:B≠g):(w.freeze ⟨g,0,none⟩ n).heap[B]?=w.heap[B]?:=by
 unfold World.freeze
 split
 ·rfl
 ·simp only[Array.getElem?_modify]
  rw[if_neg (fun e=>hB e.symm)]
theorem zC(w:World)(g n:Nat):(w.freeze ⟨g,0,none⟩ n).heap.size=w.heap.size/\(w.freeze ⟨g,0,none⟩ n).os=w.os/\(w.freeze ⟨g,0,none⟩ n).tape=w.tape/\(w.freeze ⟨g,0,none⟩ n).output=w.output:=by
 unfold World.freeze
 split
 ·exact⟨rfl,rfl,rfl,rfl⟩
 ·exact⟨by simp,rfl,rfl,rfl⟩
set_option maxRecDepth 100000 in
theorem PF:D.uf Tryz.prog PG where
 Jg:=by
  rintro f (rfl |rfl |rfl |rfl)
  ·exact enters_of Tryz.func141 (by kernel_rfl) rfl
  ·exact enters_of Tryz.func77 (by kernel_rfl) rfl
  ·exact enters_of Tryz.func79 (by kernel_rfl) rfl
  ·exact enters_of Tryz.func144 (by kernel_rfl) rfl
 fresh:=fun b w h0 hsh hfz=>Any.Builder_copyCheck_fresh (ρ:=Tryz.jW) {Tryz.rS with} Tryz.eN.toX72 b w h0 hsh hfz
 used:=fun b w h0=>Any.Builder_copyCheck_used (ρ:=Tryz.jW) {Tryz.rS with} Tryz.eN.toX72 b w h0
 L6:=fun b p w hb=>by
  have c1:w.drew.cell? ⟨b,1,none⟩=some (.slice none 0 0):=by
   have:w.drew.heap[b]?=some (.cells #[p,.slice none 0 0] 142 (0,0)):=hb
   rw[Lib.cell_of_heap this];rfl
  refine(tZ Tryz.rR Tryz.eM b none 0 0 none ⟨#[]⟩ w w.drew c1 rfl (Any.unsafeString_none Tryz.rR Tryz.eM w.drew none)).mono ?_
  rintro e w' ⟨rfl,rfl⟩
  exact⟨rfl,rfl,rfl,rfl,rfl⟩
 str:=fun b g c p cur l w hb hg h0 hc hcur hlen htake=>by
  have c1:w.drew.cell? ⟨b,1,none⟩=some (.slice (some ⟨g,0,none⟩) l.length c):=by
   have:w.drew.heap[b]?=some (.cells #[p,.slice (some ⟨g,0,none⟩) l.length c] 142 (0,0)):=hb
   rw[Lib.cell_of_heap this];rfl
  have hl0:l.length≠0:=by simpa using h0
  have hg':w.drew.heap[g]?=some (.cells cur 5 (0,0)):=hg
  have hUS:=Lib.run_unsafeString_row (P:=Tryz.prog) w.drew (Tryz.fP.t 127) (Tryz.fP.t 3) (Tryz.fP.t 9) (Tryz.fP.t 5) Tryz.rR.t127 Tryz.eM.cellsByte g cur.size (by simp only[World.shape?,hg'];rfl) l h0 hcur (by omega) (fun j x hx=>by
   have hj:j < l.length:=(List.getElem?_eq_some_iff.1 hx).1
   have e1:cur.toList[j]?=(Lib.byteCells l)[j]?:=by rw[<-htake,List.getElem?_take_of_lt hj]
   rw[D.du]
   simp only[World.cell?,hg']
   rw[Nat.zero_add]
   have e2:(Lib.byteCells l)[j]?=some (.int .u8 x.toNat):=by simp[Lib.byteCells,hx]
   rw[e2]at e1
   simpa using e1)
  refine(tZ Tryz.rR Tryz.eM b (some ⟨g,0,none⟩) l.length c (some ⟨g,0,none⟩) ⟨l.toArray⟩ w _ c1 (Lib.run_unsafeSliceData_row _ _ _ _ _ _ (by omega)) hUS).mono ?_
  rintro e w' ⟨rfl,rfl⟩
  obtain⟨f1,f2,f3,f4⟩:=zC w.drew g l.length
  exact⟨rfl,fun B hB=>zD w.drew g l.length hB,f1,f2,f3,f4⟩
 Mg:=fun a c sep w=>Any.strings_Join_none Tryz.rS Tryz.eN a c sep w
 join:=fun bk o c xs sep w h1 h2 h3 h4 h5=>Any.strings_Join Tryz.rS Tryz.eN bk o c xs sep w h1 h2 (by omega) h4 (by omega)
 split:=fun s c w hs=>by
  have hsz:s.size=s.data.toList.length:=by rfl
  have hcn:Lib.countB s ⟨#[c]⟩=s.data.toList.count c:=Lib.count_one _ _
  have hle:Lib.countB s ⟨#[c]⟩<=s.data.toList.length:=by rw[hcn];exact List.count_le_length
  have h:=Any.strings_genSplit_core Tryz.KP (by kernel_rfl) s ⟨#[c]⟩ 0 (-1) (Lib.countB s ⟨#[c]⟩+1) w (by rw[hsz];omega) (Nat.le_refl 1) (Nat.zero_le _)
   (fun x cc _=>by
    have:=Any.strings_Index_one Tryz.KQ x c (w.alloc (.cells cc (Tryz.qN.t 9)))
    rw[<-Lib.index_one]at this
    exact this)
   (by
    have:=Any.strings_Count_one Tryz.KR s c w
    rw[show Lib.countByte s.data.toList c=Lib.countB s ⟨#[c]⟩from hcn.symm]at this
    exact this) (by decide) (by decide) (by rw[if_pos (by decide),hsz];omega)
  have hcut:=D.Ar c s
  have hlen:(Lib.splitB ⟨#[c]⟩ 0 (Lib.countB s ⟨#[c]⟩) s).length=Lib.countB s ⟨#[c]⟩+1:=Lib.splitB_all ⟨#[c]⟩ (Nat.le_refl 1) 0 _ s rfl
  rw[Nat.add_sub_cancel]at h
  have hcells:Lib.cellsOf (Lib.splitB ⟨#[c]⟩ 0 (Lib.countB s ⟨#[c]⟩) s) (Lib.countB s ⟨#[c]⟩+1)=((Lib.splitB ⟨#[c]⟩ 0 (Lib.countB s ⟨#[c]⟩) s).map Value.string).toArray:=by rw[<-hlen];exact Lib.cellsOf_full _
  rw[hcells,hlen]at h
  have hl2:(D.cutAt c s.data.toList).length=Lib.countB s ⟨#[c]⟩+1:=by rw[<-hlen,hcut,List.length_map]
  rw[hcut,List.map_map]at h
  rw[hl2]
  exact h
end Go.Proofs
