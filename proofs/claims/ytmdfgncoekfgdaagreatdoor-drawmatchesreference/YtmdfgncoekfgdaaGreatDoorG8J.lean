/- What is known of calls, put together; runs of a region, part by part; a call known at one store. -/
import Derived.Test.YtmdfgncoekfgdaaGreatDoorG7J
import Derived.Test.YtmdfgncoekfgdaaGreatDoorG6J
namespace Go.D
open Go
section
variable {P:Program}
noncomputable def Gq(X Y:aF):aF:=fun f args m=>match X f args m with |some r=>some r |none=>Y f args m
theorem mv{X Y:aF}{f:Fn}{args:List Value}{m:M}{r:Value×M}(h:Gq X Y f args m=some r):X f args m=some r\/Y f args m=some r:=by
 unfold Gq at h
 cases hx:X f args m with
 |none=>rw[hx]at h;exact .inr h
 |some r'=>rw[hx]at h;exact .inl h
theorem Gn{X Y:aF}(hX:cQ P X)(hY:cQ P Y):cQ P (Gq X Y):=
 ⟨fun f args m v m' h=>(mv h).elim (hX.func f args m v m') (hY.func f args m v m'),
  fun l args m v m' h=>(mv h).elim (hX.yield l args m v m') (hY.yield l args m v m'),
  fun f args m v m' h=>(mv h).elim (hX.bt f args m v m') (hY.bt f args m v m'),
  fun a m v m' b h=>(mv h).elim (hX.EF a m v m' b) (hY.EF a m v m' b)⟩
theorem Gp{X Y:aF}{f:Fn}{args:List Value}{m:M}(h1:X f args m=none)(h2:Y f args m=none):Gq X Y f args m=none:=by
 unfold Gq;rw[h1];exact h2
end
section
variable {E:Env} {call:aF}
theorem sJ{ops:Array Oper}:∀(a b:List Oper) (j:Nat) (fr:Fr),eZ E call ops (a++b) j fr=match eZ E call ops a j fr with |some fr=>eZ E call ops b (j+a.length) fr |none=>none
 |[],b,j,fr=>rfl
 |o::a,b,j,fr=>by
  have hj:j+(o::a).length=(j+1)+a.length:=by simp only[List.length_cons];omega
  rw[List.cons_append,eY,eY,hj]
  cases bT ops fr.T o with
  |false=>simp only[cond_false];exact sJ a b _ _
  |true=>
   simp only[cond_true]
   cases cS o.op E call fr.T {fr.m with low:=fr.m.n}with
   |none=>rfl
   |some r=>
    dsimp only
    cases (Nat.ble fr.m.n r.2.low ||(dM ops j ||rG ops j fr.m fr.T o.op))with
    |false=>rfl
    |true=>simp only[cond_true];exact sJ a b _ _
theorem HV{ops:Array Oper}{l:List Oper}{fr fr':Fr}(a k j:Nat)(hk:((l.drop a).take k).length=k)(h:eZ E call ops ((l.drop a).take k) j fr=some fr'):eZ E call ops (l.drop a) j fr=eZ E call ops (l.drop (a+k)) (j+k) fr':=by
 have e:l.drop a=(l.drop a).take k++l.drop (a+k):=by rw[<-List.drop_drop,List.take_append_drop]
 rw[e,sJ,h,hk]
end
end Go.D
namespace Go.D
open Go
section
variable {P:Program} {E:Env} {X:aF} {σ:Sg} {m m1:M} {w w':World} {f:Nat} {args:List Value} {v:Value} {args':Array Value}
theorem Cl.calls(hE:E.OK P)(hX:cQ P X)(hc:Cl E X (.func f) args m m.n v m1)(hs:dN P σ m w)(hl:aU σ args args'.toList):
  CallsIn Fence.wide 0 P f args' w (cC P σ (m.wl m.n) w v (m1.wl m.n))/\(callFunc f args').run P w=.ok (.enter f args') w:=by
 obtain⟨hn,_,n0,h⟩:=hc
 have h1:=h (n0+1) (by omega) m.n (Nat.le_refl _)
 rw[Nat.min_self]at h1
 exact nM hE hX (jT hE hX n0) h1 (hs.low m.n) hl
theorem cC.flat(hs:dN P σ m w)(hv:bP v=true){e:Ending}(h:cC P σ (m.wl m.n) w v (m1.wl m.n) e w'):cC P σ m w v m e w':=by
 obtain⟨v',σ',rfl,hv',he⟩:=h
 have:=hv'.aQ hv
 subst this
 exact⟨_,σ,rfl,.flat _ hv,Ev.kept hs (fun B hB=>he.heap B hB fun b i hb _=>hs.mI b i hb) he.hle he.os he.tape he.output⟩
theorem Ev.row(hs:dN P σ m w){σ':Sg}(he:Ev P σ (m.wl m.n) w σ' (m1.wl m.n) w'){b n:Nat}{cs:List Value}{t:TypeId}{k:Nat}(hb:m.n<=b)(hg:m1.get b=.cells cs t (some k))(hf:∀u∈cs,bP u=true){u':Value}
  (hv:aJ σ' (.slice (some ⟨b,0,none⟩) n n) u') (hn:0 < n):∃τ,aJ τ (.slice (some ⟨m.n,0,none⟩) n n) u'/\Ev P σ m w τ (m.push (.cells cs t (some k))) w':=by
 have go:∀i:BI,σ' b=some i->Ev P σ m w (σ.add m.n i) (m.push (.cells cs t (some k))) w':=by
  intro i hi
  have hσb:σ b=none:=by
   cases h:σ b with
   |none=>rfl
   |some j=>have:=hs.mI b j h;omega
  obtain⟨_,hnew⟩:=he.new b i hi hσb
  have hnew:w.heap.size<=i.cG:=by
   rcases hnew with h |⟨b0,i0,h1,_,h2⟩
   ·exact h
   ·have:=hs.mI b0 i0 h1
    have h2:m.n<=b0:=h2
    omega
  have hobj:ng σ' i w' (.cells cs t (some k)):=by
   have:=he.nW.obj b i hi
   rw[show(m1.wl m.n).get b=.cells cs t (some k)from hg]at this
   exact this
  obtain⟨cG,gr⟩:=i
  refine Ev.Lx hs (fun B hB=>he.heap B hB fun b i hb _=>hs.mI b i hb) he.hle hnew (he.nW.lt b _ hi) ?_ he.os he.tape he.output
  obtain⟨c',h1,h2,h3,h4⟩:=hobj
  refine⟨c',h1,h2,⟨h3.1,fun j u u' hu hu'=>?_⟩,h4⟩
  have hff:=hf u (List.mem_of_getElem? hu)
  have:=(h3.2 j u u' hu hu').aQ hff
  subst this
  exact .flat _ hff
 have hadd:∀i:BI,(σ.add m.n i) m.n=some i:=fun i=>by unfold Sg.add;rw[if_pos rfl]
 cases hv with
 |flat _ h=>cases h
 |slice a i _ _ h hsn hgr=>exact⟨_,.slice ⟨m.n,0,none⟩ i n n (hadd i) rfl hgr,go i h⟩
 |fm a i _ _ c' k' sz N h hsn hgr hc=>exact⟨_,.fm ⟨m.n,0,none⟩ i n n c' k' sz N (hadd i) rfl hgr hc,go i h⟩
 |empty a a' i c' k' sz N h hgr ho=>omega
end
end Go.D
namespace Go.Proofs.YtmdfgncoekfgdaaGreatDoor
open Go Go.D
variable {m:M}
def oz:Nat->List Value->Option (List Pl)
 |0,_=>some []
 |n+1,.int .i64 x::.int .i64 y::r=>match oz n r with |some l=>some (⟨x,y⟩::l) |none=>none
 |_+1,_=>none
noncomputable def tV(m:M)(v:Value):Option (List Pl):=
 match v with
 |.slice none 0 0=>some []
 |.slice (some a) n _=>match a.spot,m.get a.block with
  |none,.cells cs e _=>bif Nat.beq e 98 && Nat.ble (a.off+n*2) cs.length then oz n (cs.drop a.off)else none
  |_,_=>none
 |_=>none
theorem rQ:∀{n:Nat} {cs:List Value} {l:List Pl},oz n cs=some l->l.length=n/\∀i p,l[i]?=some p->(cs.drop (i*2)).take 2=p.c
 |0,_,l,h=>by cases h;exact⟨rfl,fun i p hi=>by cases hi⟩
 |n+1,cs,l,h=>by
  unfold oz at h
  split at h
  ·omega
  ·rename_i n' x y r hn
   cases hn
   cases hr:oz n r with
   |none=>rw[hr]at h;cases h
   |some l'=>
    rw[hr]at h
    cases h
    obtain⟨h1,h2⟩:=rQ hr
    refine⟨by simp[h1],fun i p hi=>?_⟩
    match i with
    |0=>cases hi;rfl
    |i+1=>
     have:=h2 i p (by simpa using hi)
     rw[show(i+1)*2=i*2+1+1 by omega,List.drop_succ_cons,List.drop_succ_cons]
     exact this
  ·cases h
theorem rI{v:Value}{l:List Pl}(h:tV m v=some l):Sl m l v:=by
 unfold tV at h
 split at h
 ·cases h;exact .inl ⟨rfl,rfl⟩
 ·rename_i a n c
  split at h
  ·rename_i cs e g hsp hg
   cases hc:(Nat.beq e 98 && Nat.ble (a.off+n*2) cs.length)with
   |false=>rw[hc]at h;cases h
   |true=>
    rw[hc,cond_true]at h
    rw[Bool.and_eq_true]at hc
    obtain rfl:=Nat.eq_of_beq_eq_true hc.1
    have hle:=Nat.le_of_ble_eq_true hc.2
    obtain⟨h1,h2⟩:=rQ h
    obtain⟨ab,ao,sp⟩:=a
    have hsp:sp=none:=hsp
    subst hsp
    refine .inr ⟨ab,ao,c,cs,g,by rw[h1],hg,by rw[h1];exact hle,fun i p hi=>?_⟩
    have:=h2 i p hi
    rw[List.drop_drop]at this
    exact this
  ·cases h
 ·cases h
noncomputable def oy(m:M):Nat->List Value->Option (List Un)
 |0,_=>some []
 |n+1,.int .i64 a::.int .i64 b::.int .i64 c::w::.int .i64 d::.int .i64 e::r=>match tV m w,oy m n r with |some s,some l=>some (⟨a,b,c,s,d,e⟩::l) |_,_=>none
 |_+1,_=>none
noncomputable def ET(m:M)(v:Value):Option (List Un):=
 match v with
 |.slice none 0 0=>some []
 |.slice (some a) n _=>match a.spot,m.get a.block with
  |none,.cells cs e _=>bif Nat.beq e 87 && Nat.ble (a.off+n*6) cs.length then oy m n (cs.drop a.off)else none
  |_,_=>none
 |_=>none
theorem rO:∀{n:Nat} {cs:List Value} {l:List Un},oy m n cs=some l->l.length=n/\∀i u,l[i]?=some u->∃w,(cs.drop (i*6)).take 6=u.c w/\Sl m u.shape w
 |0,_,l,h=>by cases h;exact⟨rfl,fun i p hi=>by cases hi⟩
 |n+1,cs,l,h=>by
  unfold oy at h
  split at h
  ·omega
  ·rename_i n' a b c w d e r hn
   cases hn
   cases hs:tV m w with
   |none=>rw[hs]at h;cases h
   |some s=>
    cases hr:oy m n r with
    |none=>rw[hs,hr]at h;cases h
    |some l'=>
     rw[hs,hr]at h
     cases h
     obtain⟨h1,h2⟩:=rO hr
     refine⟨by simp[h1],fun i p hi=>?_⟩
     match i with
     |0=>cases hi;exact⟨w,rfl,rI hs⟩
     |i+1=>
      have:=h2 i p (by simpa using hi)
      rw[show(i+1)*6=i*6+1+1+1+1+1+1 by omega,List.drop_succ_cons,List.drop_succ_cons,List.drop_succ_cons,List.drop_succ_cons,List.drop_succ_cons,List.drop_succ_cons]
      exact this
  ·cases h
theorem ES{v:Value}{l:List Un}(h:ET m v=some l):Sl m l v:=by
 unfold ET at h
 split at h
 ·cases h;exact .inl ⟨rfl,rfl⟩
 ·rename_i a n c
  split at h
  ·rename_i cs e g hsp hg
   cases hc:(Nat.beq e 87 && Nat.ble (a.off+n*6) cs.length)with
   |false=>rw[hc]at h;cases h
   |true=>
    rw[hc,cond_true]at h
    rw[Bool.and_eq_true]at hc
    obtain rfl:=Nat.eq_of_beq_eq_true hc.1
    have hle:=Nat.le_of_ble_eq_true hc.2
    obtain⟨h1,h2⟩:=rO h
    obtain⟨ab,ao,sp⟩:=a
    have hsp:sp=none:=hsp
    subst hsp
    refine .inr ⟨ab,ao,c,cs,g,by rw[h1],hg,by rw[h1];exact hle,fun i u hi=>?_⟩
    obtain⟨w,hw,hs⟩:=h2 i u hi
    rw[List.drop_drop]at hw
    exact⟨w,hw,hs⟩
  ·cases h
 ·cases h
noncomputable def pJ:aF:=fun fn args m=>
 match fn with
 |.func f=>
  bif Nat.beq f 157 then
   match args with
   |[v]=>match tV m v with |some l=>bif Nat.ble l.length 1000 then some (.bool (aY l),m)else none |none=>none
   |_=>none
  else bif Nat.beq f 119 then
   match args with
   |[v,.int .i64 x,.int .i64 y]=>match tV m v with |some l=>bif Nat.ble l.length 1000 then some (.int .i64 (fY l x y),m)else none |none=>none
   |_=>none
  else bif Nat.beq f 60 then
   match args with
   |[.agg a,.bool b]=>match a.toList with
    |[v]=>match ET m v with
     |some us=>bif Nat.ble us.length 1000 && us.all (fun u=>aY u.shape)then some (cF 40 40 (.slice (some ⟨m.n,0,none⟩) 1600 1600),m.push (.cells ((cJ us b).map (.int .i64)) 3 (some 1)))else none
     |none=>none
    |_=>none
   |_=>none
  else none
 |_=>none
end Go.Proofs.YtmdfgncoekfgdaaGreatDoor
namespace Go.Proofs.YtmdfgncoekfgdaaGreatDoor
open Go Go.D
variable {m:M}
theorem Am:cW Ny:=⟨fun _ _ _ _=>rfl⟩
theorem sx:∀{l:List Int} {cs:List Value},cs.length=l.length*1->(∀i x,l[i]?=some x->chunk cs 1 i=[.int .i64 x])->cs=l.map (.int .i64)
 |[],cs,h,_=>List.length_eq_zero_iff.1 (by simpa using h)
 |x::l,a::cs,h,hc=>by
  have h0:=hc 0 x rfl
  simp only[chunk,Nat.zero_mul,List.drop_zero,List.take_succ_cons,List.take_zero]at h0
  injection h0 with h0
  rw[h0,List.map_cons,<-sx (l:=l) (cs:=cs) (by simp at h;omega) (fun i y hi=>by
   have:=hc (i+1) y (by simpa using hi)
   simp only[chunk,Nat.mul_one,List.drop_succ_cons]at this⊢
   exact this)]
 |x::l,[],h,_=>by simp at h
theorem uo{us:List Un}{b:Bool}:(cJ us b).length=1600:=by unfold cJ;rw[cy]
theorem zf{σ:Sg}{m1:M}{w w':World}{v1:Value}{l:List Int}(hs:dN Tryz.prog σ m w)(ho:Ow m.n m1 l v1)(hl:0 < l.length){e:Ending}(h:cC Tryz.prog σ (m.wl m.n) w (cF 40 40 v1) (m1.wl m.n) e w'):
  cC Tryz.prog σ m w (cF 40 40 (.slice (some ⟨m.n,0,none⟩) l.length l.length)) (m.push (.cells (l.map (.int .i64)) 3 (some 1))) e w':=by
 obtain⟨v',σ',rfl,hv,he⟩:=h
 rcases ho with⟨_,rfl⟩ |⟨b,cs,rfl,_,hb,hg,hcl,hch⟩
 ·simp at hl
 have hcs:cs=l.map (.int .i64):=sx hcl hch
 subst hcs
 cases hv with
 |flat _ h=>cases h
 |agg a a' ha h1=>
  obtain⟨τ,hvs,hev⟩:∃τ,aJ τ (.slice (some ⟨m.n,0,none⟩) l.length l.length) ((a'.toList[2]?).getD undef)/\Ev Tryz.prog σ m w τ (m.push (.cells (l.map (.int .i64)) 3 (some 1))) w':=by
   have hlt:2 < a'.size:=by rw[<-ha];exact Nat.lt_succ_self _
   have e2:a'[2]?=some a'[2]:=Array.getElem?_eq_getElem hlt
   have:=h1 2 _ _ rfl e2
   have e3:(a'.toList[2]?).getD undef=a'[2]:=by rw[Array.getElem?_toList,e2];rfl
   rw[e3]
   exact Ev.row hs he hb hg (fun u hu=>by obtain⟨z,_,rfl⟩:=List.mem_map.1 hu;rfl) this hl
  refine⟨.agg a',τ,rfl,.agg _ _ ha fun j u u' hu hu'=>?_,hev⟩
  match j with
  |0=>
   have:=(h1 0 _ _ rfl hu').aQ rfl
   cases hu
   rw[this]
   exact .flat _ rfl
  |1=>
   have:=(h1 1 _ _ rfl hu').aQ rfl
   cases hu
   rw[this]
   exact .flat _ rfl
  |2=>
   cases hu
   have e3:(a'.toList[2]?).getD undef=u':=by rw[Array.getElem?_toList,hu'];rfl
   rw[<-e3]
   exact hvs
  |j+3=>simp at hu
theorem Dk:cQ Tryz.prog pJ:=by
 refine⟨fun f args m v m' hx σ w args' hs hl=>?_,fun l args m v m' hx=>by simp[pJ]at hx,fun f args m v m' hx=>?_,fun a m v m' b hx=>by
  have e:pJ (.func tI) [.pointer (some a)] m=none:=rfl
  rw[e]at hx
  cases hx⟩
 ·unfold pJ at hx
  dsimp only at hx
  cases h1:Nat.beq f 157 with
  |true=>
   obtain rfl:=Nat.eq_of_beq_eq_true h1
   rw[h1,cond_true]at hx
   split at hx
   ·rename_i v0
    split at hx
    ·rename_i l hp
     cases hlen:Nat.ble l.length 1000 with
     |false=>rw[hlen]at hx;cases hx
     |true=>
      rw[hlen,cond_true]at hx
      cases hx
      have hle:=Nat.le_of_ble_eq_true hlen
      have hc:=Cl.calls af.ok Al (jk Am (rI hp) (by omega)) hs hl
      exact⟨hc.1.mono fun e w' h=>h.flat hs rfl,hc.2⟩
    ·cases hx
   ·cases hx
  |false=>
   rw[h1,cond_false]at hx
   cases h2:Nat.beq f 119 with
   |true=>
    obtain rfl:=Nat.eq_of_beq_eq_true h2
    rw[h2,cond_true]at hx
    split at hx
    ·rename_i v0 x y
     split at hx
     ·rename_i l hp
      cases hlen:Nat.ble l.length 1000 with
      |false=>rw[hlen]at hx;cases hx
      |true=>
       rw[hlen,cond_true]at hx
       cases hx
       have hle:=Nat.le_of_ble_eq_true hlen
       have hc:=Cl.calls af.ok Al (Cf Am (rI hp) (by omega) x y) hs hl
       exact⟨hc.1.mono fun e w' h=>h.flat hs rfl,hc.2⟩
     ·cases hx
    ·cases hx
   |false=>
    rw[h2,cond_false]at hx
    cases h3:Nat.beq f 60 with
    |false=>rw[h3]at hx;cases hx
    |true=>
     obtain rfl:=Nat.eq_of_beq_eq_true h3
     rw[h3,cond_true]at hx
     split at hx
     ·rename_i a b
      split at hx
      ·rename_i v0 ha
       split at hx
       ·rename_i us hp
        cases hc:(Nat.ble us.length 1000 && us.all (fun u=>aY u.shape))with
        |false=>rw[hc]at hx;cases hx
        |true=>
         rw[hc,cond_true]at hx
         rw[Bool.and_eq_true]at hc
         have hle:=Nat.le_of_ble_eq_true hc.1
         have hval:∀u∈us,aY u.shape=true:=fun u hu=>by
          have:=List.all_eq_true.1 hc.2 u hu
          exact this
         cases hx
         obtain⟨al⟩:=a
         have ha:al=[v0]:=ha
         subst ha
         obtain⟨v1,m1,hcl,hx1,ho⟩:=oS (behind:=b) Am (ES hp) hval hle
         have hcc:=Cl.calls af.ok Al hcl hs hl
         refine⟨hcc.1.mono fun e w' h=>?_,hcc.2⟩
         have:=zf hs ho (by rw[uo];decide) h
         rw[uo]at this
         exact this
       ·cases hx
      ·cases hx
     ·cases hx
 ·unfold pJ at hx
  cases f with
  |func f=>
   dsimp only at hx
   cases h1:Nat.beq f 157 with
   |true=>
    rw[h1,cond_true]at hx
    split at hx
    ·split at hx
     ·rename_i l hp
      cases hlen:Nat.ble l.length 1000 with
      |false=>rw[hlen]at hx;cases hx
      |true=>rw[hlen,cond_true]at hx;cases hx;exact LK.refl
     ·cases hx
    ·cases hx
   |false=>
    rw[h1,cond_false]at hx
    cases h2:Nat.beq f 119 with
    |true=>
     rw[h2,cond_true]at hx
     split at hx
     ·split at hx
      ·rename_i l hp
       cases hlen:Nat.ble l.length 1000 with
       |false=>rw[hlen]at hx;cases hx
       |true=>rw[hlen,cond_true]at hx;cases hx;exact LK.refl
      ·cases hx
     ·cases hx
    |false=>
     rw[h2,cond_false]at hx
     cases h3:Nat.beq f 60 with
     |false=>rw[h3]at hx;cases hx
     |true=>
      rw[h3,cond_true]at hx
      split at hx
      ·split at hx
       ·split at hx
        ·rename_i us hp
         cases hc:(Nat.ble us.length 1000 && us.all (fun u=>aY u.shape))with
         |false=>rw[hc]at hx;cases hx
         |true=>rw[hc,cond_true]at hx;cases hx;exact LK.push
        ·cases hx
       ·cases hx
      ·cases hx
  |_=>cases hx
end Go.Proofs.YtmdfgncoekfgdaaGreatDoor
