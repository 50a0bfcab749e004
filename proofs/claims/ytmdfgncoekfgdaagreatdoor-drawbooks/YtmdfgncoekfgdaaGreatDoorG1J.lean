/- '==' of values. -/
import Derived.Test.YtmdfgncoekfgdaaGreatDoorG0J
import Derived.ChangeKeysEq
import Derived.Laws.Append
import Derived.Laws.AppendOwn
namespace Go.D
open Go
section
variable {E:Env} {P:Program} {w:World}
theorem eW:∀{ks:List Kd} {xs ys:List Value} {b:Bool},bU ks xs ys=some b->xs.length=ks.length/\ys.length=ks.length
 |[],[],[],_,_=>⟨rfl,rfl⟩
 |[],[],_::_,_,h=>by simp[bU]at h
 |[],_::_,_,_,h=>by simp[bU]at h
 |_::_,[],_,_,h=>by simp[bU]at h
 |_::_,_::_,[],_,h=>by simp[bU]at h
 |k::ks,a::x,c::y,b,h=>by
  unfold bU at h
  split at h
  ·rename_i h1
   obtain⟨e1,e2⟩:=eW h1
   simp[e1,e2]
  ·cases h
theorem jE:∀{k1 k2:List Kd} {xs ys:List Value} {b:Bool},bU (k1++k2) xs ys=some b->
  ∃b1 b2,bU k1 (xs.take k1.length) (ys.take k1.length)=some b1/\bU k2 (xs.drop k1.length) (ys.drop k1.length)=some b2/\b=(b1 && b2)
 |[],_,_,_,b,h=>⟨true,b,by simp[bU],by simpa using h,by simp⟩
 |k::k1,k2,[],_,_,h=>by simp[bU]at h
 |k::k1,k2,_::_,[],_,h=>by simp[bU]at h
 |k::k1,k2,a::x,c::y,b,h=>by
  simp only[List.cons_append,bU]at h
  split at h
  ·rename_i b0 r h0 h1
   obtain⟨c1,c2,e1,e2,e3⟩:=jE h1
   simp only[Option.some.injEq]at h
   exact⟨b0 && c1,c2,by simp[bU,h0,e1],by simpa using e2,by rw[<-h,e3,Bool.and_assoc]⟩
  ·cases h
def valOf(u:TypeDesc)(cs:List Value):Value:=
 match u with
 |.struct _ |.array _ _=> .agg cs.toArray
 |_=>cs.headD undef
def Dd:TypeDesc->Nat->Prop
 |.struct _,_=>True
 |.array _ _,_=>True
 |_,n=>n=1
theorem nq(ks:List Kd):∀n:Nat,(lu ks n).length=n*ks.length
 |0=>by simp[lu]
 |n+1=>by unfold lu;rw[List.length_append,nq ks n,Nat.add_mul];omega
theorem oI{t:TypeId}{i:TypeInfo}{u:TypeDesc}(hi:P.info? t=some i)(hu:P.underlying t=some u)(cs:List Value)(off:Nat)(h:off+i.size<=cs.length)
  (h1:Dd u i.size):(Go.part t cs.toArray off).run P w=.ok (valOf u ((cs.drop off).take i.size)) w:=by
 have hext:cs.toArray.extract off (off+i.size)=((cs.drop off).take i.size).toArray:=by
  apply Array.ext'
  rw[Array.toList_extract,List.extract_eq_take_drop]
  congr 1
  omega
 have hag:=pf (P:=P) u w t hu
 unfold Go.part
 rw[Sem.run_bind,hag,Result.andThen_ok]
 have basic:(fM P u).agg=false->i.size=1->valOf u ((cs.drop off).take i.size)=cs[off]?.getD undef->
   (if(fM P u).agg=true then do let n<-sizeOf t;pure (Value.agg (cs.toArray.extract off (off+n)))else match cs.toArray[off]? with |some v=>pure v |none=>stuck "part: no such cell" :Sem Value).run P w=.ok (valOf u ((cs.drop off).take i.size)) w:=by
  intro ha hs hv
  have hlt:off < cs.length:=by omega
  rw[hv,ha]
  simp[List.getElem?_eq_getElem hlt]
 have head:i.size=1->((cs.drop off).take i.size).headD undef=cs[off]?.getD undef:=by
  intro hs
  have hlt:off < cs.length:=by omega
  rw[hs,List.drop_eq_getElem_cons hlt,List.getElem?_eq_getElem hlt]
  rfl
 cases u with
 |struct fs=>
  have:(fM P (.struct fs)).agg=true:=rfl
  simp only[this,if_true,Sem.run_bind,run_sizeOf hi,Result.andThen_ok,Sem.run_pure,hext,valOf]
 |array n e=>
  have:(fM P (.array n e)).agg=true:=rfl
  simp only[this,if_true,Sem.run_bind,run_sizeOf hi,Result.andThen_ok,Sem.run_pure,hext,valOf]
 |_=>exact basic rfl h1 (head h1)
theorem wP{d:Nat}{t:TypeId}{k:Kd}{u:TypeDesc}(hu:P.underlying t=some u)(hk:(u=.bool/\k=.b)\/((∃q,u=.int q)/\k=.i)\/(u=.string/\k=.s)){x y:Value}{b:Bool}
  (h:CO k x y=some b):(Op.equalIn (d+1) t x y).run P w=.ok b w:=by
 rcases hk with⟨rfl,rfl⟩ |⟨⟨q,rfl⟩,rfl⟩ |⟨rfl,rfl⟩
 ·cases x <;>cases y <;>simp[CO]at h
  subst h
  simp[Op.equalIn,run_underlying hu]
 ·cases x <;>cases y <;>simp[CO]at h
  obtain⟨rfl,rfl⟩:=h
  simp[Op.equalIn,run_underlying hu]
 ·cases x <;>cases y <;>simp[CO]at h
  subst h
  simp[Op.equalIn,run_underlying hu]
theorem nE{t:TypeId}{r:Option (List Kd)}{ks:List Kd}(h:sized P t r=some ks):∃i,P.info? t=some i/\r=some ks/\ks.length=i.size:=by
 unfold sized at h
 split at h
 ·rename_i ks' i h1
  split at h
  ·cases h;exact⟨i,h1,rfl,by assumption⟩
  ·cases h
 ·cases h
theorem tF(d:Nat)(xs ys:List Value)
  (ih:∀(t:TypeId) (ks:List Kd) (u:TypeDesc) (x y:List Value) (b:Bool),jG P d t=some ks->P.underlying t=some u->bU ks x y=some b->∀K,d<=K->(Op.equalIn K t (valOf u x) (valOf u y)).run P w=.ok b w)
  (K:Nat) (hK:d<=K):∀(fs:List Field) (off:Nat) (ks:List Kd) (b:Bool),kinds (jG P d) fs off=some ks->bU ks (xs.drop off) (ys.drop off)=some b->
   off+ks.length=xs.length->off+ks.length=ys.length->(Op.eqFields K xs.toArray ys.toArray fs).run P w=.ok b w
 |[],off,ks,b,h,he,_,_=>by
  simp only[kinds,Option.some.injEq]at h
  subst h
  have:=(eW he)
  have e1:xs.drop off=[]:=List.eq_nil_of_length_eq_zero (by simpa using this.1)
  have e2:ys.drop off=[]:=List.eq_nil_of_length_eq_zero (by simpa using this.2)
  rw[e1,e2]at he
  simp only[bU,Option.some.injEq]at he
  subst he
  simp[Op.eqFields]
 |f::fs,off,ks,b,h,he,hx,hy=>by
  unfold kinds at h
  by_cases hn:f.name= "_"
  ·rw[if_pos hn]at h;cases h
  ·rw[if_neg hn]at h
   by_cases ho:f.offset=off
   ·rw[if_pos ho]at h
    split at h
    ·rename_i k1 hk1
     split at h
     ·rename_i r hr
      cases h
      obtain⟨b1,b2,e1,e2,rfl⟩:=jE he
      cases d with
      |zero=>simp[jG]at hk1
      |succ d=>
       have hk1':=hk1
       unfold jG at hk1
       obtain⟨i,hi,hr0,hlen⟩:=nE hk1
       cases hu:P.underlying f.type with
       |none=>rw[hu]at hr0;simp at hr0
       |some u=>
        simp only[List.length_append]at hx hy
        have h1:Dd u i.size:=by
         rw[hu]at hr0
         cases u <;>simp at hr0 <;>first |trivial |(subst hr0;exact hlen.symm)
        have p1:=oI (w:=w) hi hu xs f.offset (by omega) h1
        have p2:=oI (w:=w) hi hu ys f.offset (by omega) h1
        have q:=ih f.type k1 u _ _ b1 hk1' hu (by rw[hlen]at e1;exact e1) K hK
        simp only[List.drop_drop]at e2
        unfold Op.eqFields
        rw[if_pos hn]
        simp only[Sem.run_bind,p1,p2,Result.andThen_ok]
        rw[ho,q]
        have rest:=tF (d+1) xs ys ih K hK fs (off+k1.length) r b2 hr e2 (by omega) (by omega)
        cases b1
        ·simp
        ·simp[rest]
     ·cases h
    ·cases h
   ·rw[if_neg ho]at h;cases h
theorem vf(d:Nat)(xs ys:List Value)(e:TypeId)(i:TypeInfo)(hi:P.info? e=some i)(u:TypeDesc)(hu:P.underlying e=some u)(k1:List Kd)(hk1:jG P d e=some k1)(hl:k1.length=i.size)
  (h1:Dd u i.size)
  (ih:∀(t:TypeId) (ks:List Kd) (u:TypeDesc) (x y:List Value) (b:Bool),jG P d t=some ks->P.underlying t=some u->bU ks x y=some b->∀K,d<=K->(Op.equalIn K t (valOf u x) (valOf u y)).run P w=.ok b w)
  (K:Nat) (hK:d<=K):∀(n j:Nat) (b:Bool),bU (lu k1 n) (xs.drop (j*i.size)) (ys.drop (j*i.size))=some b->
   (j+n)*i.size=xs.length->(j+n)*i.size=ys.length->(Op.eqItems K e i.size xs.toArray ys.toArray (List.range' j n)).run P w=.ok b w
 |0,j,b,he,hx,hy=>by
  simp only[Nat.add_zero]at hx hy
  rw[hx,List.drop_length,<-hx,hy,List.drop_length]at he
  simp only[lu,bU,Option.some.injEq]at he
  subst he
  simp[Op.eqItems]
 |n+1,j,b,he,hx,hy=>by
  unfold lu at he
  obtain⟨b1,b2,e1,e2,rfl⟩:=jE he
  have hmul:(j+(n+1))*i.size=j*i.size+i.size+n*i.size:=by
   rw[Nat.add_mul,Nat.add_mul,Nat.one_mul];omega
  have p1:=oI (w:=w) hi hu xs (j*i.size) (by omega) h1
  have p2:=oI (w:=w) hi hu ys (j*i.size) (by omega) h1
  have q:=ih e k1 u _ _ b1 hk1 hu (by rw[hl]at e1;exact e1) K hK
  rw[List.drop_drop,List.drop_drop,hl]at e2
  have hj:j*i.size+i.size=(j+1)*i.size:=by rw[Nat.add_mul,Nat.one_mul]
  rw[hj]at e2
  have rest:=vf d xs ys e i hi u hu k1 hk1 hl h1 ih K hK n (j+1) b2 e2 (by rw[<-hx];congr 1;omega) (by rw[<-hy];congr 1;omega)
  rw[List.range'_succ]
  unfold Op.eqItems
  simp only[Sem.run_bind,p1,p2,Result.andThen_ok,q]
  cases b1
  ·simp
  ·simp[rest]
theorem wW:∀(d:Nat) (t:TypeId) (ks:List Kd) (u:TypeDesc) (xs ys:List Value) (b:Bool),jG P d t=some ks->P.underlying t=some u->bU ks xs ys=some b->
  ∀K,d<=K->(Op.equalIn K t (valOf u xs) (valOf u ys)).run P w=.ok b w
 |0,_,_,_,_,_,_,h,_,_,_,_=>by simp[jG]at h
 |d+1,t,ks,u,xs,ys,b,h,hu,he,K,hK=>by
  obtain⟨K,rfl⟩:∃K',K=K'+1:=⟨K-1,by omega⟩
  unfold jG at h
  obtain⟨i,hi,hr,hlen⟩:=nE h
  rw[hu]at hr
  have one:∀k,ks=[k]->∃x y,xs=[x]/\ys=[y]/\CO k x y=some b:=by
   intro k hk
   subst hk
   have:=eW he
   match xs,ys,this,he with
   |[x],[y],_,he=>
    refine⟨x,y,rfl,rfl,?_⟩
    simp only[bU]at he
    split at he
    ·rename_i c r h1 h2
     simp only[Option.some.injEq]at h2 he
     subst h2;subst he
     simpa using h1
    ·cases he
  cases u with
  |bool=>
   simp only[Option.some.injEq]at hr
   obtain⟨x,y,rfl,rfl,hk⟩:=one _ hr.symm
   exact wP hu (.inl ⟨rfl,rfl⟩) hk
  |int q=>
   simp only[Option.some.injEq]at hr
   obtain⟨x,y,rfl,rfl,hk⟩:=one _ hr.symm
   exact wP hu (.inr (.inl ⟨⟨q,rfl⟩,rfl⟩)) hk
  |string=>
   simp only[Option.some.injEq]at hr
   obtain⟨x,y,rfl,rfl,hk⟩:=one _ hr.symm
   exact wP hu (.inr (.inr ⟨rfl,rfl⟩)) hk
  |struct fs=>
   simp only at hr
   by_cases hst:P.stoodInHeld t=true
   ·rw[if_pos hst]at hr;cases hr
   ·rw[if_neg hst]at hr
    have hfo:P.fieldsOf t=fs:=by unfold Program.fieldsOf;rw[hu]
    have hln:=eW he
    have:=run_equalIn_struct (P:=P) w K t xs.toArray ys.toArray (by rw[hfo];exact hu) (by simpa using hst)
    rw[hfo]at this
    show(Op.equalIn (K+1) t (.agg xs.toArray) (.agg ys.toArray)).run P w=_
    rw[this]
    exact tF d xs ys (fun t ks u x y b=>wW d t ks u x y b) K (by omega) fs.toList 0 ks b hr (by simpa using he) (by omega) (by omega)
  |array n e=>
   simp only at hr
   split at hr
   ·rename_i k1 hk1
    by_cases hn:n*k1.length<=64
    ·rw[if_pos hn]at hr
     cases hr
     have hln:=eW he
     cases d with
     |zero=>simp[jG]at hk1
     |succ d=>
      have hk1':=hk1
      unfold jG at hk1
      obtain⟨ie,hie,hr0,hlen1⟩:=nE hk1
      cases hue:P.underlying e with
      |none=>rw[hue]at hr0;simp at hr0
      |some ue=>
       have h1:Dd ue ie.size:=by
        rw[hue]at hr0
        cases ue <;>simp at hr0 <;>first |trivial |(subst hr0;exact hlen1.symm)
       have hcl:(lu k1 n).length=n*ie.size:=by rw[<-hlen1];exact nq k1 n
       have hco:P.cellsOf e=ie.size:=by unfold Program.cellsOf;rw[hie];rfl
       have:=run_equalIn_array (P:=P) w K xs.toArray ys.toArray hu hie
       rw[hco]at this
       show(Op.equalIn (K+1) t (.agg xs.toArray) (.agg ys.toArray)).run P w=_
       rw[this,List.range_eq_range']
       exact vf (d+1) xs ys e ie hie ue hue k1 hk1' hlen1 h1 (fun t ks u x y b=>wW (d+1) t ks u x y b) K (by omega) n 0 b (by simpa using he) (by simp;omega) (by simp;omega)
    ·rw[if_neg hn]at hr;cases hr
   ·cases hr
  |_=>simp at hr
end
end Go.D
namespace Go.D
open Go
section
variable {E:Env} {P:Program} {σ:Sg} {m m':M} {w:World}
theorem aJ.int{k:IntKind}{n:Int}{v':Value}(h:aJ σ (.int k n) v'):v'=.int k n:=h.aK rfl
theorem aJ.bool{b:Bool}{v':Value}(h:aJ σ (.bool b) v'):v'=.bool b:=h.aK rfl
theorem aJ.string{s:ByteArray}{v':Value}(h:aJ σ (.string s) v'):v'=.string s:=h.aK rfl
theorem aJ.dO{a:Addr}{v':Value}(h:aJ σ (.pointer (some a)) v'):∃i,σ a.block=some i/\a.spot=none/\v'=.pointer (some ⟨i.bX,a.off,none⟩):=by
 cases h with
 |flat _ h=>simp[bL]at h
 |ptr _ i h hs=>exact⟨i,h,hs,rfl⟩
theorem aJ.cW{a:Addr}{n c:Nat}{v':Value}(h:aJ σ (.slice (some a) n c) v'):∃(i:BI) (a':Addr) (c':Nat),σ a.block=some i/\v'=.slice (some a') n c'/\
  ((a.spot=none/\a'=⟨i.bX,a.off,none⟩/\((i.gr=none/\c'=c)\/∃k sz N,i.gr=some (k,sz,N)/\(c'=c\/(c<=c'/\a.off+c*k=sz/\a.off+c'*k=N))))\/(n=0/\c=0/\∃k sz N,i.gr=some (k,sz,N)/\a.off=sz)):=by
 cases h with
 |flat _ h=>simp[bL]at h
 |slice _ i _ _ h hs hg=>exact⟨i,_,_,h,rfl,.inl ⟨hs,rfl,.inl ⟨hg,rfl⟩⟩⟩
 |fq _ i _ _ c' k sz N h hs hg hc=>exact⟨i,_,_,h,rfl,.inl ⟨hs,rfl,.inr ⟨k,sz,N,hg,hc⟩⟩⟩
 |empty _ a' i c' k sz N h hg ho=>exact⟨i,a',c',h,rfl,.inr ⟨rfl,rfl,k,sz,N,hg,ho⟩⟩
theorem aJ.dH{n c:Nat}{v':Value}(h:aJ σ (.slice none n c) v'):n=0/\c=0/\v'=.slice none 0 0:=by
 cases h with
 |flat _ h=>
  unfold bL at h
  split at h <;>simp_all
theorem aJ.kV{r:Nat}{v':Value}(h:aJ σ (.map (some r)) v'):∃i,σ r=some i/\v'=.map (some i.bX):=by
 cases h with
 |flat _ h=>simp[bL]at h
 |map _ i h=>exact⟨i,h,rfl⟩
theorem aJ.pZ{b:Option Addr}{n c:Nat}{v':Value}(h:aJ σ (.slice b n c) v'):∃b' c',v'=.slice b' n c'/\b'.isNone=b.isNone:=by
 cases b with
 |none=>obtain⟨rfl,rfl,rfl⟩:=h.dH;exact⟨_,_,rfl,rfl⟩
 |some a=>obtain⟨_,a',c',_,rfl,_⟩:=h.cW;exact⟨_,_,rfl,rfl⟩
theorem aJ.KH{b:Option Nat}{v':Value}(h:aJ σ (.map b) v'):∃b',v'=.map b'/\b'.isNone=b.isNone:=by
 cases b with
 |none=>exact⟨_,h.aK rfl,rfl⟩
 |some r=>
  cases h with
  |flat _ h=>simp[bL]at h
  |map _ i h=>exact⟨_,rfl,rfl⟩
theorem aJ.Ch{b:Option Addr}{v':Value}(h:aJ σ (.pointer b) v'):∃b',v'=.pointer b'/\b'.isNone=b.isNone:=by
 cases b with
 |none=>exact⟨_,h.aK rfl,rfl⟩
 |some r=>obtain⟨_,_,_,rfl⟩:=h.dO;exact⟨_,rfl,rfl⟩
theorem aJ.map_nil{v':Value}(h:aJ σ (.map none) v'):v'=.map none:=h.aK rfl
theorem aJ.iZ{a:Array Value}{v':Value}(h:aJ σ (.agg a) v'):∃a':Array Value,v'=.agg a'/\aT σ a.toList a'.toList:=by
 cases h with
 |flat _ h=>simp[bL]at h
 |agg _ a' ha h1=>exact⟨a',rfl,by simpa using ha,fun j u u' x y=>h1 j u u' (by simpa using x) (by simpa using y)⟩
theorem aJ.pU{a:Array Value}{v':Value}(h:aJ σ (.tuple a) v'):∃a':Array Value,v'=.tuple a'/\aT σ a.toList a'.toList:=by
 cases h with
 |flat _ h=>simp[bL]at h
 |tuple _ a' ha h1=>exact⟨a',rfl,by simpa using ha,fun j u u' x y=>h1 j u u' (by simpa using x) (by simpa using y)⟩
theorem aJ.tD{f:FuncId}{a b:Array Value}{v':Value}(h:aJ σ (.func (.func f) a b) v'):∃a' b':Array Value,v'=.func (.func f) a' b'/\aT σ a.toList a'.toList/\aT σ b.toList b'.toList:=by
 cases h with
 |flat _ h=>
  simp[bL]at h
  obtain⟨rfl,rfl⟩:=h
  exact⟨_,_,rfl,aT.nil,aT.nil⟩
 |func _ _ _ a' b' ha hb h1 h2=>
  exact⟨a',b',rfl,⟨by simpa using ha,fun j u u' x y=>h1 j u u' (by simpa using x) (by simpa using y)⟩,⟨by simpa using hb,fun j u u' x y=>h2 j u u' (by simpa using x) (by simpa using y)⟩⟩
theorem Jf{k:Kd}{x y x' y':Value}{b:Bool}(h:CO k x y=some b)(hx:aJ σ x x')(hy:aJ σ y y'):x'=x/\y'=y:=by
 unfold CO at h
 split at h
 ·exact⟨hx.bool,hy.bool⟩
 ·exact⟨hx.int,hy.int⟩
 ·exact⟨hx.string,hy.string⟩
 ·cases h
theorem pH:∀{ks:List Kd} {x y x' y':List Value} {b:Bool},bU ks x y=some b->aT σ x x'->aT σ y y'->x'=x/\y'=y
 |[],[],[],_,_,_,_,hx,hy=>⟨hx.nil_eq,hy.nil_eq⟩
 |[],[],_::_,_,_,_,h,_,_=>by simp[bU]at h
 |[],_::_,_,_,_,_,h,_,_=>by simp[bU]at h
 |_::_,[],_,_,_,_,h,_,_=>by simp[bU]at h
 |_::_,_::_,[],_,_,_,h,_,_=>by simp[bU]at h
 |k::ks,a::x,c::y,x',y',b,h,hx,hy=>by
  obtain⟨a',x1,rfl,ha,hx1⟩:=hx.cases
  obtain⟨c',y1,rfl,hc,hy1⟩:=hy.cases
  unfold bU at h
  split at h
  ·rename_i h1 h2
   obtain⟨q1,q2⟩:=Jf h1 ha hc
   obtain⟨q3,q4⟩:=pH h2 hx1 hy1
   rw[q1,q2,q3,q4]
   exact⟨rfl,rfl⟩
  ·cases h
theorem Bc(hE:E.OK P){t:TypeId}{x y x' y':Value}{b:Bool}(h:eq? E t x y=some b)(hx:aJ σ x x')(hy:aJ σ y y'){d:Nat}(hd:12<=d+1):
  (Op.equalIn (d+1) t x' y').run P w=.ok b w:=by
 unfold eq? at h
 split at h
 ·cases h
 ·rename_i ti hti
  obtain⟨inf,u,f⟩:=hE.jO hti
  rw[f.d]at h
  have aggs:∀(xs ys:Array Value) (ks:List Kd),x=.agg xs->y=.agg ys->ti.cmp=some ks->bU ks xs.toList ys.toList=some b->(∀cs,valOf u cs=.agg cs.toArray)->
    (Op.equalIn (d+1) t x' y').run P w=.ok b w:=by
   intro xs ys ks e1 e2 hks he hv
   subst e1;subst e2
   obtain⟨a',rfl,ha⟩:=hx.iZ
   obtain⟨c',rfl,hc⟩:=hy.iZ
   obtain⟨q1,q2⟩:=pH he ha hc
   have hcm:jG P 12 t=some ks:=by
    rw[f.cmp]at hks
    unfold CS at hks
    split at hks
    ·split at hks
     ·cases hks
     ·exact hks
    ·split at hks
     ·cases hks
     ·exact hks
    ·cases hks
   have:=wW (w:=w) 12 t ks u _ _ b hcm f.dV he (d+1) hd
   rw[hv,hv]at this
   rw[<-q1,<-q2]at this
   simpa using this
  split at h
  ·rename_i hd
   cases h
   rw[hx.bool,hy.bool]
   simp[Op.equalIn,run_underlying (f.dV.trans (by rw[mM hd]))]
  ·rename_i hd
   split at h
   ·rename_i hk;subst hk
    cases h
    rw[hx.int,hy.int]
    simp[Op.equalIn,run_underlying (f.dV.trans (by rw[jy hd]))]
   ·cases h
  ·rename_i hd
   cases h
   rw[hx.string,hy.string]
   simp[Op.equalIn,run_underlying (f.dV.trans (by rw[fY hd]))]
  ·rename_i hd
   obtain⟨gs,rfl,_⟩:=eT hd
   split at h
   ·rename_i ks hks
    exact aggs _ _ ks rfl rfl hks h (fun _=>rfl)
   ·cases h
  ·rename_i hd
   obtain rfl:=gM hd
   split at h
   ·rename_i ks hks
    exact aggs _ _ ks rfl rfl hks h (fun _=>rfl)
   ·cases h
  ·rename_i hd
   cases h
   obtain⟨rfl,rfl,rfl⟩:=hx.dH
   have hu:=f.dV.trans (by rw[cL hd])
   obtain⟨b',c',rfl,hb⟩:=hy.pZ
   rw[<-hb]
   simp[Op.equalIn,run_underlying hu]
  ·rename_i hd
   cases h
   obtain⟨rfl,rfl,rfl⟩:=hy.dH
   obtain⟨_,a',c',_,rfl,_⟩:=hx.cW
   have hu:=f.dV.trans (by rw[cL hd])
   simp[Op.equalIn,run_underlying hu]
  ·rename_i hd
   cases h
   rw[hx.map_nil]
   have hu:=f.dV.trans (by rw[jx hd])
   obtain⟨b',rfl,hb⟩:=hy.KH
   rw[<-hb]
   simp[Op.equalIn,run_underlying hu]
  ·rename_i hd
   cases h
   rw[hy.map_nil]
   obtain⟨_,_,rfl⟩:=hx.kV
   have hu:=f.dV.trans (by rw[jx hd])
   simp[Op.equalIn,run_underlying hu]
  ·rename_i hd
   cases h
   obtain⟨a,c,e,rfl⟩:=qm hd
   rw[hx.aK rfl,hy.aK rfl]
   simp[Op.equalIn,run_underlying f.dV]
  ·rename_i hd
   cases h
   obtain⟨a,c,e,rfl⟩:=qm hd
   rw[hx.aK rfl]
   cases hy <;>simp[Op.equalIn,run_underlying f.dV]
  ·rename_i hd
   cases h
   obtain⟨a,c,e,rfl⟩:=qm hd
   rw[hy.aK rfl]
   cases hx <;>simp[Op.equalIn,run_underlying f.dV]
  ·rename_i hd
   cases h
   have hu:=f.dV.trans (by rw[ze hd])
   rw[hx.aK rfl]
   obtain⟨b',rfl,hb⟩:=hy.Ch
   rw[<-hb]
   simp[Op.equalIn,run_underlying hu]
  ·rename_i hd
   cases h
   have hu:=f.dV.trans (by rw[ze hd])
   rw[hy.aK rfl]
   obtain⟨_,_,_,rfl⟩:=hx.dO
   simp[Op.equalIn,run_underlying hu]
  ·rename_i hd
   cases h
   obtain⟨ms,rfl,_⟩:=sT hd
   rw[hx.aK rfl,hy.aK rfl]
   simp[Op.equalIn,run_underlying f.dV]
  ·cases h
theorem lZ(hE:E.OK P){t:TypeId}{x y x' y':Value}{b:Bool}(h:eq? E t x y=some b)(hx:aJ σ x x')(hy:aJ σ y y'):(Op.equal t x' y').run P w=.ok b w:=
 Bc hE h hx hy (d:=9999) (by omega)
theorem qP(hE:E.OK P){t:TypeId}{x y x' y':Value}{b:Bool}(h:eq? E t x y=some b)(hx:aJ σ x x')(hy:aJ σ y y')(op:BinOp)(xo yo:Operand):(eqGuard op t xo yo x' y').run P w=.ok () w:=by
 unfold eq? at h
 split at h
 ·cases h
 ·rename_i ti hti
  obtain⟨inf,u,f⟩:=hE.jO hti
  have calm:∀ks,ti.cmp=some ks->P.eqGuardType P.depth t=false:=by
   intro ks hks
   rw[f.cmp]at hks
   unfold CS at hks
   split at hks
   ·split at hks
    ·cases hks
    ·rename_i hg;simpa using hg
   ·split at hks
    ·cases hks
    ·rename_i hg;simpa using hg
   ·cases hks
  split at h
  ·rw[hx.bool];rw[eqGuard_at_bool];rfl
  ·rw[hx.int];rw[eqGuard_at_int];rfl
  ·rw[hx.string];rw[eqGuard_at_string];rfl
  ·split at h
   ·rename_i ks hks
    obtain⟨a',rfl,ha⟩:=hx.iZ
    obtain⟨c',rfl,hc⟩:=hy.iZ
    exact run_eqGuard_agg w op t xo yo a' c' (calm ks hks)
   ·cases h
  ·split at h
   ·rename_i ks hks
    obtain⟨a',rfl,ha⟩:=hx.iZ
    obtain⟨c',rfl,hc⟩:=hy.iZ
    exact run_eqGuard_agg w op t xo yo a' c' (calm ks hks)
   ·cases h
  ·obtain⟨rfl,rfl,rfl⟩:=hx.dH
   rw[eqGuard_at_slice];rfl
  ·obtain⟨_,a',c',_,rfl,_⟩:=hx.cW
   rw[eqGuard_at_slice];rfl
  ·rw[hx.map_nil,eqGuard_at_map];rfl
  ·obtain⟨_,_,rfl⟩:=hx.kV
   rw[eqGuard_at_map];rfl
  ·rw[hx.aK rfl,eqGuard_at_nilFunc];rfl
  ·rw[hx.aK rfl,eqGuard_at_nilFunc];rfl
  ·cases hx <;>(rw[eqGuard_at_func];rfl)
  ·rw[hx.aK rfl]
   obtain⟨b',rfl,_⟩:=hy.Ch
   unfold eqGuard;split <;>rfl
  ·obtain⟨_,_,_,rfl⟩:=hx.dO
   unfold eqGuard;split <;>rfl
  ·rename_i hd
   rw[f.d]at hd
   obtain⟨ms,rfl,he⟩:=sT hd
   rw[hx.aK rfl,hy.aK rfl]
   have hg:(Op.eqGuardIn (9999+1) t .nilIface .nilIface).run P w=.ok false w:=by
    unfold Op.eqGuardIn
    rw[Sem.run_bind,run_underlying f.dV]
    show Sem.run P (pure !ms.isEmpty) w=_
    rw[he];rfl
   have hg:(Op.eqGuardIn Op.maxDepth t .nilIface .nilIface).run P w=.ok false w:=hg
   generalize hG:Op.eqGuardIn Op.maxDepth t .nilIface .nilIface=G at hg
   have key:(do if<-G then unsupported (.noEntry "binop/eql: two nil values of an interface type with methods, neither of them the literal nil"):Sem Unit).run P w=.ok () w:=by
    rw[Sem.run_bind,hg];rfl
   unfold eqGuard
   rw[hG]
   cases op <;>try rfl
   all_goals (cases xo <;>cases yo <;>first |rfl |exact key)
  ·cases h
end
end Go.D
namespace Go.D
open Go
section
variable {E:Env} {P:Program} {σ:Sg} {m m':M} {w:World}
def kf:Value->Bool
 |.int _ _ |.float _ _ |.complex _ _ _ |.string _=>false
 |_=>true
theorem aJ.kf{x x':Value}(h:aJ σ x x'):kf x'=kf x:=by
 cases h <;>rfl
theorem zM{t:TypeId}{x y:Value}{b:Bool}(h:eq? E t x y=some b)(hi:∀k a k' b,x=.int k a->y=.int k' b->False)(hs:∀a b,x=.string a->y=.string b->False):kf x=true:=by
 unfold eq? at h
 cases hti:E.ty.get t with
 |none=>rw[hti]at h;simp at h
 |some ti=>
  rw[hti]at h
  obtain⟨d,_,_,_,_,_⟩:=ti
  cases x with
  |int k a=>cases d <;>cases y <;>first |(simp at h;done) |exact(hi _ _ _ _ rfl rfl).elim
  |string a=>cases d <;>cases y <;>first |(simp at h;done) |exact(hs _ _ rfl rfl).elim
  |float k a=>cases d <;>simp at h
  |complex k a b=>cases d <;>simp at h
  |_=>rfl
theorem ub{t:TypeId}{x y:Value}(h:kf x=true):binOp .eql t x y=(do pure (.bool (<-Op.equal t x y))):=by
 cases x <;>simp[kf]at h <;>cases y <;>rfl
theorem ua{t:TypeId}{x y:Value}(h:kf x=true):binOp .neq t x y=(do pure (.bool (!(<-Op.equal t x y)))):=by
 cases x <;>simp[kf]at h <;>cases y <;>rfl
theorem BA{op:BinOp}{t:TypeId}{k:IntKind}{a b:Int}{v:Value}(h:gn op k a b=some v):(binOp op t (.int k a) (.int k b)).run P w=.ok v w/\bL v=true:=by
 unfold gn at h
 cases op <;>simp only[Option.some.injEq,reduceCtorEq]at h
 case quo=>
  split at h
  ·cases h
  ·cases h
   rename_i hb
   exact⟨by simp[binOp,Op.intDiv,hb],rfl⟩
 case rem=>
  split at h
  ·cases h
  ·cases h
   rename_i hb
   exact⟨by simp[binOp,Op.intDiv,hb],rfl⟩
 all_goals
  subst h
  exact⟨by simp[binOp,Op.intArith,Op.intBits,Op.intCmp],rfl⟩
theorem By{op:BinOp}{t:TypeId}{a b:ByteArray}{v:Value}(h:Bz op a b=some v):(binOp op t (.string a) (.string b)).run P w=.ok v w/\bL v=true:=by
 unfold Bz at h
 cases op <;>simp only[Option.some.injEq,reduceCtorEq]at h
 case add=>
  split at h
  ·cases h
  ·cases h
   rename_i hb
   exact⟨by simp only[binOp,Op.stringOp,if_neg hb];rfl,rfl⟩
 all_goals
  subst h
  exact⟨by simp[binOp,Op.stringOp],rfl⟩
theorem vv(hE:E.OK P){op:BinOp}{t:TypeId}{x y x' y' v:Value}(h:an E op t x y=some v)(hx:aJ σ x x')(hy:aJ σ y y')(xo yo:Operand):
  (eqGuard op t xo yo x' y' >>=fun _=>binOp op t x' y').run P w=.ok v w/\bL v=true:=by
 unfold an at h
 split at h
 ·rw[hx.int,hy.int]
  split at h
  ·cases h
  ·cases h
   rename_i hb
   exact⟨by rw[eqGuard_shl];simp[binOp,Op.shift,hb],rfl⟩
 ·rw[hx.int,hy.int]
  split at h
  ·cases h
  ·cases h
   rename_i hb
   exact⟨by rw[eqGuard_shr];simp[binOp,Op.shift,hb],rfl⟩
 ·rw[hx.int,hy.int]
  split at h
  ·rename_i hk;subst hk
   obtain⟨h1,h2⟩:=BA (P:=P) (w:=w) (t:=t) h
   exact⟨by rw[eqGuard_at_int];simpa using h1,h2⟩
  ·cases h
 ·rw[hx.string,hy.string]
  obtain⟨h1,h2⟩:=By (P:=P) (w:=w) (t:=t) h
  exact⟨by rw[eqGuard_at_string];simpa using h1,h2⟩
 ·rename_i hi hs
  cases hq:eq? E t x y with
  |none=>rw[hq]at h;simp at h
  |some b=>
   rw[hq]at h
   simp only[Option.map_some,Option.some.injEq]at h
   subst h
   have hh:=zM hq (fun k a k' b e1 e2=>hi _ _ _ _ e1 e2) (fun a b e1 e2=>hs _ _ e1 e2)
   have hg:=qP (w:=w) hE hq hx hy .eql xo yo
   have he:=lZ (w:=w) hE hq hx hy
   refine⟨?_,rfl⟩
   rw[ub (by rw[hx.kf];exact hh),Sem.run_bind,hg,Result.andThen_ok,Sem.run_bind,he]
   rfl
 ·rename_i hi hs
  cases hq:eq? E t x y with
  |none=>rw[hq]at h;simp at h
  |some b=>
   rw[hq]at h
   simp only[Option.map_some,Option.some.injEq]at h
   subst h
   have hh:=zM hq (fun k a k' b e1 e2=>hi _ _ _ _ e1 e2) (fun a b e1 e2=>hs _ _ e1 e2)
   have hg:=qP (w:=w) hE hq hx hy .neq xo yo
   have he:=lZ (w:=w) hE hq hx hy
   refine⟨?_,rfl⟩
   rw[ua (by rw[hx.kf];exact hh),Sem.run_bind,hg,Result.andThen_ok,Sem.run_bind,he]
   rfl
 ·cases h
theorem xS{op:UnOp}{x x' v:Value}(h:iO op x=some v)(hx:aJ σ x x'):(Op.unary op x').run P w=.ok v w/\bL v=true:=by
 unfold iO at h
 split at h
 ·cases h;rw[hx.int];exact⟨by simp[Op.unary,Op.intArith],rfl⟩
 ·cases h;rw[hx.bool];exact⟨by simp[Op.unary],rfl⟩
 ·cases h
theorem Bl(hE:E.OK P){s d:TypeId}{x x' v:Value}(h:Jr E s d x=some v)(hx:aJ σ x x'):(convert s d x').run P w=.ok v w/\bL v=true:=by
 unfold Jr at h
 split at h
 ·rename_i si ti k n hs ht
  obtain⟨_,us,fs⟩:=hE.jO hs
  obtain⟨_,ut,ft⟩:=hE.jO ht
  split at h
  ·rename_i hd
   cases h
   rw[ft.d]at hd
   rw[hx.int]
   have hu:=ft.dV.trans (by rw[jy hd])
   refine⟨?_,rfl⟩
   simp[convert,run_underlying fs.dV,run_underlying hu,Conv.intToInt]
  ·cases h
 ·rename_i si ti b hs ht
  obtain⟨_,us,fs⟩:=hE.jO hs
  obtain⟨_,ut,ft⟩:=hE.jO ht
  split at h
  ·rename_i hd
   cases h
   rw[ft.d]at hd
   rw[hx.string]
   have hu:=ft.dV.trans (by rw[fY hd])
   refine⟨?_,rfl⟩
   simp[convert,run_underlying fs.dV,run_underlying hu]
  ·cases h
 ·cases h
theorem sI(hE:E.OK P){t:TypeId}{cs cs':List Value}{off:Nat}{v:Value}(h:part E t cs off=some v)(hc:aT σ cs cs'):
  ∃v',(Go.part t cs'.toArray off).run P w=.ok v' w/\aJ σ v v':=by
 unfold part at h
 split at h
 ·rename_i ti hti
  obtain⟨i,u,f⟩:=hE.jO hti
  have hag:=pf (P:=P) u w t f.dV
  rw[<-f.d]at hag
  unfold Go.part
  rw[Sem.run_bind,hag,Result.andThen_ok]
  cases ha:ti.d.agg with
  |true=>
   rw[ha]at h
   simp only[cond_true]at h
   cases hb:Nat.ble (off+ti.size) cs.length with
   |false=>rw[hb]at h;simp at h
   |true=>
    rw[hb]at h
    simp only[cond_true,Option.some.injEq]at h
    subst h
    refine⟨.agg ((cs'.drop off).take ti.size).toArray,?_,((hc.drop off).take ti.size).agg⟩
    have hext:cs'.toArray.extract off (off+i.size)=((cs'.drop off).take ti.size).toArray:=by
     apply Array.ext'
     rw[Array.toList_extract,List.extract_eq_take_drop,f.size]
     congr 1
     omega
    simp only[if_true,Sem.run_bind,run_sizeOf f.info,Result.andThen_ok,Sem.run_pure,hext]
  |false=>
   rw[ha]at h
   simp only[cond_false]at h
   obtain⟨u',hu,hr⟩:=hc.get h
   exact⟨u',by simp[hu],hr⟩
 ·cases h
theorem qS(hE:E.OK P){t:TypeId}{x x' v:Value}{n:Nat}(h:wN E t x n=some v)(hx:aJ σ x x'):∃v',(Instr.field t x' n).run P w=.ok v' w/\aJ σ v v':=by
 unfold wN at h
 split at h
 ·rename_i ti cs hti
  obtain⟨i,u,f⟩:=hE.jO hti
  split at h
  ·rename_i fs hd
   rw[f.d]at hd
   obtain⟨gs,rfl,rfl⟩:=eT hd
   split at h
   ·rename_i fd hfd
    simp only[List.getElem?_map,Option.map_eq_some_iff]at hfd
    obtain⟨g,hg,rfl⟩:=hfd
    obtain⟨cs',rfl,hc⟩:=hx.iZ
    obtain⟨v',h1,h2⟩:=sI (w:=w) hE h hc
    refine⟨v',?_,h2⟩
    have hg':gs[n]?=some g:=by simpa using hg
    simp only[Instr.field,Sem.run_bind,run_underlying f.dV,Result.andThen_ok,hg',asAgg,Sem.run_pure]
    simpa[pg]using h1
   ·cases h
  ·cases h
 ·cases h
theorem lB(hE:E.OK P){t:TypeId}{x x' v:Value}{n:Nat}(h:ae E t x n=some v)(hx:aJ σ x x'):∃v',(Instr.fieldAt t x' n).run P w=.ok v' w/\aJ σ v v':=by
 unfold ae at h
 split at h
 ·rename_i ti a hti
  obtain⟨i,u,f⟩:=hE.jO hti
  split at h
  ·rename_i fs hd
   rw[f.d]at hd
   obtain⟨gs,rfl,rfl⟩:=eT hd
   split at h
   ·rename_i fd hfd
    simp only[List.getElem?_map,Option.map_eq_some_iff]at hfd
    obtain⟨g,hg,rfl⟩:=hfd
    obtain⟨bi,hb,hsp,rfl⟩:=hx.dO
    cases hz:Nat.beq (pg P g).size 0 with
    |true=>rw[hz]at h;simp at h
    |false=>
     rw[hz]at h
     simp only[cond_false,Option.some.injEq]at h
     subst h
     have hne:=Nat.ne_of_beq_eq_false hz
     cases hi:P.info? g.type with
     |none=>simp[pg,hi]at hne
     |some gi=>
      have hgs:gi.size≠0:=by simpa[pg,hi]using hne
      have hg':gs[n]?=some g:=by simpa using hg
      obtain⟨bl,o,sp⟩:=a
      simp only at hsp hb
      subst hsp
      refine⟨.pointer (some ⟨bi.bX,o+g.offset,none⟩),?_,?_⟩
      ·simp only[Instr.fieldAt,Sem.run_bind,run_underlying f.dV,Result.andThen_ok,hg',Instr.sureAddr,Sem.run_pure,fieldPlace,run_sizeOf hi,if_neg hgs,du]
      ·have:((pg P g).off)=g.offset:=rfl
       rw[this,du]
       exact .ptr ⟨bl,o+g.offset,none⟩ bi hb rfl
   ·cases h
  ·cases h
 ·cases h
theorem od{u:TypeDesc}{e:Nat}(hu:tK P u=0->False)(he:u=.slice e\/∃n,u=.array n e):∃ei,P.info? e=some ei/\tK P u=ei.size:=by
 rcases he with rfl |⟨n,rfl⟩
 ·cases hi:P.info? e with
  |none=>simp[tK,hi]at hu
  |some ei=>exact⟨ei,rfl,by simp[tK,hi]⟩
 ·cases hi:P.info? e with
  |none=>simp[tK,hi]at hu
  |some ei=>exact⟨ei,rfl,by simp[tK,hi]⟩
theorem lA(hE:E.OK P){t:TypeId}{x x' y y' v:Value}(h:ai E t x y=some v)(hx:aJ σ x x')(hy:aJ σ y y'):∃v',(Instr.indexAt t x' y').run P w=.ok v' w/\aJ σ v v':=by
 unfold ai at h
 split at h
 ·cases h
 ·rename_i ti hti
  obtain⟨i,u,f⟩:=hE.jO hti
  split at h
  ·rename_i e a n c k j hd
   rw[f.d]at hd
   obtain rfl:=cL hd
   split at h
   ·rename_i hc
    cases h
    obtain⟨ei,hei,hes⟩:=od (P:=P) (u:=.slice e) (by rw[<-f.es];omega) (.inl rfl)
    rw[hy.int]
    obtain⟨bi,a',c',hb,rfl,hcase⟩:=hx.cW
    rcases hcase with⟨hsp,rfl,_⟩ |⟨rfl,rfl,_⟩
    ·obtain⟨bl,o,sp⟩:=a
     simp only at hsp hb
     subst hsp
     refine⟨.pointer (some ⟨bi.bX,o+j.toNat*ei.size,none⟩),?_,?_⟩
     ·have h2:0<=j/\j < (n:Int):=⟨hc.1,hc.2.1⟩
      simp only[Instr.indexAt,Sem.run_bind,asIntOf,Sem.run_pure,Result.andThen_ok,run_underlying f.dV,if_pos h2,run_sizeOf hei,du]
     ·rw[f.es,hes,du]
      exact .ptr ⟨bl,o+j.toNat*ei.size,none⟩ bi hb rfl
    ·exfalso
     have:=hc.2.1
     have:=hc.1
     simp at*
     omega
   ·cases h
  ·rename_i n e a k j hd
   rw[f.d]at hd
   obtain rfl:=gM hd
   split at h
   ·rename_i hc
    cases h
    obtain⟨ei,hei,hes⟩:=od (P:=P) (u:=.array n e) (by rw[<-f.es];omega) (.inr ⟨n,rfl⟩)
    rw[hy.int]
    obtain⟨bi,hb,hsp,rfl⟩:=hx.dO
    obtain⟨bl,o,sp⟩:=a
    simp only at hsp hb
    subst hsp
    refine⟨.pointer (some ⟨bi.bX,o+j.toNat*ei.size,none⟩),?_,?_⟩
    ·have h2:0<=j/\j < (n:Int):=⟨hc.1,hc.2.1⟩
     simp only[Instr.indexAt,Sem.run_bind,asIntOf,Sem.run_pure,Result.andThen_ok,run_underlying f.dV,Instr.sureAddr,if_pos h2,run_sizeOf hei,du]
    ·rw[f.es,hes,du]
     exact .ptr ⟨bl,o+j.toNat*ei.size,none⟩ bi hb rfl
   ·cases h
  ·cases h
theorem qO(hE:E.OK P){t:TypeId}{x x' y y' v:Value}(h:index? E t x y=some v)(hx:aJ σ x x')(hy:aJ σ y y'):∃v',(Instr.index t x' y').run P w=.ok v' w/\aJ σ v v':=by
 unfold index? at h
 split at h
 ·cases h
 ·rename_i ti hti
  obtain⟨i,u,f⟩:=hE.jO hti
  split at h
  ·rename_i n e cs k j hd
   rw[f.d]at hd
   obtain rfl:=gM hd
   split at h
   ·rename_i hc
    rw[hy.int]
    obtain⟨cs',rfl,hcs⟩:=hx.iZ
    obtain⟨v',h1,h2⟩:=sI (w:=w) hE h hcs
    refine⟨v',?_,h2⟩
    have hp:=h
    unfold part at hp
    split at hp
    ·rename_i ei hei
     obtain⟨ie,ue,fe⟩:=hE.jO hei
     have hes:ti.es=ie.size:=by rw[f.es];simp[tK,fe.info]
     have h3:(0:Int)<=j/\j < (n:Int):=hc
     simp only[Instr.index,Sem.run_bind,asIntOf,Sem.run_pure,Result.andThen_ok,run_underlying f.dV,if_pos h3,run_sizeOf fe.info]
     rw[<-hes]
     simpa using h1
    ·cases hp
   ·cases h
  ·rename_i s k j hd
   rw[f.d]at hd
   obtain rfl:=fY hd
   split at h
   ·rename_i hc
    simp only[Option.map_eq_some_iff]at h
    obtain⟨b,hb,rfl⟩:=h
    rw[hy.int,hx.string]
    refine⟨.int .u8 b.toNat,?_,.flat _ rfl⟩
    simp only[Instr.index,Sem.run_bind,asIntOf,Sem.run_pure,Result.andThen_ok,run_underlying f.dV,if_pos hc,hb]
   ·cases h
  ·cases h
end
end Go.D
namespace Go.D
open Go
def uK(P:Program)(σ:Sg)(m:M)(w:World)(s:Sem Value)(v:Value)(m':M):Prop:=
 ∃σ' w' v',s.run P w=.ok v' w'/\aJ σ' v v'/\Ev P σ m w σ' m' w'
section
variable {E:Env} {P:Program} {σ:Sg} {m m':M} {w:World}
theorem uK.pure(hs:dB P σ m w){s:Sem Value}{v v':Value}(h:s.run P w=.ok v' w)(hv:aJ σ v v'):uK P σ m w s v m:=⟨σ,w,v',h,hv,Ev.refl hs⟩
def Nj(len size:Nat):Option Nat->Option (Nat×Nat×Nat)
 |none=>none
 |some k=>some (k,len,size)
theorem Cq(hs:dB P σ m w){c:List Value}{c':Array Value}{e:TypeId}{g:Option Nat}(hl:c.length<=c'.size)(h:aT σ c (c'.toList.take c.length))
  (hg:OX ⟨w.heap.size,Nj c.length c'.size g⟩ c.length c'.size g):
  Ev P σ m w (σ.add m.n ⟨w.heap.size,Nj c.length c'.size g⟩) (m.push (.cells c e g)) (w.alloc (.cells c' e)):=by
 refine Ev.mL hs ⟨c',?_,hl,h.mono (Sg.qo hs.jh),hg⟩
 exact heap_alloc_new w _
theorem mK(hs:dB P σ m w){c:List Value}{c':Array Value}{e:TypeId}(h:aT σ c c'.toList):
  Ev P σ m w (σ.add m.n ⟨w.heap.size,none⟩) (m.push (.cells c e none)) (w.alloc (.cells c' e)):=by
 have hl:c.length=c'.size:=by simpa using h.1
 refine Cq (g:=none) hs (by omega) ?_ ⟨rfl,hl.symm⟩
 rw[List.take_of_length_le (by simp;omega)]
 exact h
theorem Fw(hs:dB P σ m w){t:TypeId}{v v':Value}(hv:aJ σ v v'):uK P σ m w (Instr.box t v') (newVar m t v).1 (newVar m t v).2:=by
 refine⟨_,_,.pointer (some ⟨w.heap.size,0,none⟩),?_,?_,mK hs hv.cells (e:=t)⟩
 ·simp[Instr.box,Go.newVar,newRow]
 ·exact .ptr ⟨m.n,0,none⟩ _ (Sg.add_same _ _) rfl
theorem Ac(hE:E.OK P)(hs:dB P σ m w){t:TypeId}{z:Value}(hz:ig E t=some z):uK P σ m w (Instr.alloc t true (.tuple #[])) (newVar m t z).1 (newVar m t z).2:=by
 unfold ig at hz
 cases ht:E.ty.get t with
 |none=>rw[ht]at hz;simp at hz
 |some ti=>
  rw[ht]at hz
  simp only[Option.bind_some]at hz
  obtain⟨i,u,f⟩:=hE.jO ht
  have hr:=cZ (w:=w) f.info (by rw[<-f.zero];exact hz)
  refine⟨_,_,.pointer (some ⟨w.heap.size,0,none⟩),?_,?_,mK hs (aJ.eB (hE.flat ht hz)).cells (e:=t)⟩
  ·simp[Instr.alloc,hr,Go.newVar,newRow]
  ·exact .ptr ⟨m.n,0,none⟩ _ (Sg.add_same _ _) rfl
theorem pC(off:Nat):∀(l:List Value) (k:Nat) (cs:Array Value),off+k+l.length<=cs.size->
  (l.zipIdx k).foldl (fun cs p=>cs.setIfInBounds (off+p.2) p.1) cs=(cs.toList.take (off+k)++(l++cs.toList.drop (off+k+l.length))).toArray
 |[],k,cs,_=>by simp
 |v::l,k,cs,h=>by
  simp only[List.length_cons]at h
  simp only[List.zipIdx_cons,List.foldl_cons]
  rw[pC off l (k+1) (cs.setIfInBounds (off+k) v) (by simp;omega)]
  have e:=list_seg_step cs.toList (off+k) v l (by simp;omega)
  simp only[Array.toList_setIfInBounds,List.length_cons]
  have e1:off+(k+1)=off+k+1:=by omega
  rw[e1]
  simp only[List.append_assoc]at e
  rw[e]
theorem lf{place place':Nat->Option (Nat×Nat)}(hp:∀i o,place i=some o->place' i=some o){T:Operand->Value}{A:Operand->Value}:
  ∀(ps:List (Nat×Operand)) (cs:List Value) (cs':Array Value) (out:List Value),(∀p∈ps,aJ σ (T p.2) (A p.2))->aT σ cs cs'.toList->
   fill place cs (ps.map fun p=>(p.1,T p.2))=some out->∃out':Array Value,Instr.fill place' cs' (ps.map fun p=>(p.1,A p.2))=some out'/\aT σ out out'.toList
 |[],cs,cs',out,_,hc,h=>by
  simp only[List.map_nil,fill,Option.some.injEq]at h
  subst h
  exact⟨cs',rfl,hc⟩
 |p::ps,cs,cs',out,hv,hc,h=>by
  simp only[List.map_cons,fill]at h
  split at h
  ·cases h
  ·rename_i off size ho
   have hx:=hv p List.mem_cons_self
   have hxc:=hx.cells
   cases hb:(Nat.beq (cells (T p.2)).length size && Nat.ble (off+size) cs.length)with
   |false=>rw[hb]at h;simp at h
   |true=>
    rw[hb]at h
    simp only[cond_true]at h
    simp only[Bool.and_eq_true]at hb
    have h1:=Nat.eq_of_beq_eq_true hb.1
    have h2:=Nat.le_of_ble_eq_true hb.2
    have hl1:=hxc.1
    have hl2:=hc.1
    simp only[Array.length_toList]at hl1 hl2
    have hsp:=pC off (A p.2).cells.toList 0 cs' (by simp;omega)
    simp only[Nat.add_zero]at hsp
    have hfold:((A p.2).cells.zipIdx.foldl (fun cs (x:Value×Nat)=>cs.setIfInBounds (off+x.2) x.1) cs')=(cs'.toList.take off++((A p.2).cells.toList++cs'.toList.drop (off+(A p.2).cells.toList.length))).toArray:=by
     rw[<-hsp,<-Array.foldl_toList]
     simp
    have hrel:aT σ (cs.take off++(cells (T p.2)++cs.drop (off+size))) (cs'.toList.take off++((A p.2).cells.toList++cs'.toList.drop (off+(A p.2).cells.toList.length))):=by
     have:(A p.2).cells.toList.length=size:=by simp;omega
     rw[this]
     exact(hc.take off).append (hxc.append (hc.drop _))
    obtain⟨out',e1,e2⟩:=lf hp ps _ (cs'.toList.take off++((A p.2).cells.toList++cs'.toList.drop (off+(A p.2).cells.toList.length))).toArray out (fun q hq=>hv q (List.mem_cons_of_mem _ hq)) (by simpa using hrel) h
    refine⟨out',?_,e2⟩
    simp only[List.map_cons,Instr.fill,hp _ _ ho]
    rw[if_neg (by simp;omega)]
    rw[<-e1]
    congr 1
theorem qW(hE:E.OK P){T A:Operand->Value}{t:TypeId}{ps:Array (Nat×Operand)}{v:Value}(hv:∀p∈ps.toList,aJ σ (T p.2) (A p.2))
  (h:aW E t (ps.toList.map fun p=>(p.1,T p.2))=some v):∃v',(Instr.build t (ps.map fun p=>(p.1,A p.2))).run P w=.ok v' w/\aJ σ v v':=by
 unfold aW at h
 split at h
 ·cases h
 ·rename_i ti hti
  obtain⟨i,u,f⟩:=hE.jO hti
  split at h
  ·rename_i z fs hz hd
   have hflat:=hE.flat hti hz
   have hd':=hd
   rw[f.d]at hd
   obtain⟨gs,rfl,rfl⟩:=eT hd
   simp only[Option.map_eq_some_iff]at h
   obtain⟨cs,hcs,rfl⟩:=h
   have hr:=cZ (w:=w) f.info (by rw[<-f.zero];exact hz)
   have hplaces:(gs.mapM (m:=Sem) fun f=>do pure (f.offset,<-sizeOf f.type)).run P w=.ok (gs.map fun g=>(g.offset,(pg P g).size)) w:=by
    have key:∀(l:List Field),(∀g∈l,∃gi,P.info? g.type=some gi)->(l.mapM (m:=Sem) fun f=>do pure (f.offset,<-sizeOf f.type)).run P w=.ok (l.map fun g=>(g.offset,(pg P g).size)) w:=by
     intro l
     induction l with
     |nil=>intro _;rfl
     |cons g l ih=>
      intro hl
      obtain⟨gi,hgi⟩:=hl g List.mem_cons_self
      have h2:=ih (fun g hg=>hl g (List.mem_cons_of_mem _ hg))
      rw[List.mapM_cons]
      simp only[Sem.run_bind,run_sizeOf hgi,Result.andThen_ok,Sem.run_pure,h2,List.map_cons]
      simp[pg,hgi]
    have:=key gs.toList (fun g hg=>by
     obtain⟨fi,h1,_⟩:=hE.Z4 hti hd' (List.mem_map_of_mem (f:=pg P) hg)
     obtain⟨gi,gu,gf⟩:=hE.jO h1
     exact⟨gi,gf.info⟩)
    rw[Array.mapM_eq_mapM_toList,Sem.run_map,this]
    simp only[Result.andThen_ok]
    congr 1
    apply Array.ext'
    simp
   obtain⟨out',e1,e2⟩:=lf (σ:=σ) (place':=((gs.map fun g=>(g.offset,(pg P g).size))[·]?)) (by
    intro j o ho
    simp only[List.getElem?_map,Option.map_map,Option.map_eq_some_iff]at ho
    obtain⟨g,hg,rfl⟩:=ho
    have:gs[j]?=some g:=by simpa using hg
    simp[this,pg]) ps.toList (cells z) z.cells cs hv (aJ.eB hflat).cells hcs
   refine⟨.agg out',?_,?_⟩
   ·simp only[Instr.build,Sem.run_bind,hr,Result.andThen_ok,run_underlying f.dV,hplaces]
    have:(ps.map fun p=>(p.1,A p.2)).toList=ps.toList.map fun p=>(p.1,A p.2):=by simp
    rw[this,e1]
    rfl
   ·have:=e2.agg;simpa using this
  ·rename_i z n e hz hd
   have hflat:=hE.flat hti hz
   rw[f.d]at hd
   obtain rfl:=gM hd
   cases hb:Nat.beq ti.es 0 with
   |true=>rw[hb]at h;simp at h
   |false=>
    rw[hb]at h
    have hne:=Nat.ne_of_beq_eq_false hb
    simp only[cond_false,Option.map_eq_some_iff]at h
    obtain⟨cs,hcs,rfl⟩:=h
    have hr:=cZ (w:=w) f.info (by rw[<-f.zero];exact hz)
    obtain⟨ei,hei,hes⟩:=od (P:=P) (u:=.array n e) (by rw[<-f.es];exact hne) (.inr ⟨n,rfl⟩)
    obtain⟨out',e1,e2⟩:=lf (σ:=σ) (place':=fun j=>some (j*ei.size,ei.size)) (by
     intro j o ho
     rw[f.es,hes]at ho
     exact ho) ps.toList (cells z) z.cells cs hv (aJ.eB hflat).cells hcs
    refine⟨.agg out',?_,?_⟩
    ·simp only[Instr.build,Sem.run_bind,hr,Result.andThen_ok,run_underlying f.dV,run_sizeOf hei]
     have:(ps.map fun p=>(p.1,A p.2)).toList=ps.toList.map fun p=>(p.1,A p.2):=by simp
     rw[this,e1]
     rfl
    ·have:=e2.agg;simpa using this
  ·cases h
end
end Go.D
namespace Go.D
open Go
section
variable {E:Env} {P:Program} {σ:Sg} {m m':M} {w:World}
theorem iR(z:List Value):∀n:Nat,(fO z n).length=n*z.length
 |0=>by simp[fO]
 |n+1=>by unfold fO;rw[List.length_append,iR z n,Nat.add_mul];omega
theorem uL(z:List Value):∀(n i:Nat),i < n*z.length->(fO z n)[i]?=z[i%z.length]?
 |0,i,h=>by simp at h
 |n+1,i,h=>by
  unfold fO
  by_cases hi:i < z.length
  ·rw[List.getElem?_append_left hi,Nat.mod_eq_of_lt hi]
  ·rw[List.getElem?_append_right (by omega),uL z n _ (by rw[Nat.add_mul]at h;omega)]
   congr 1
   rw[<-Nat.mod_eq_sub_mod (by omega)]
theorem mq{z z':List Value}(h:aT σ z z'):∀n:Nat,aT σ (fO z n) (fO z' n)
 |0=>aT.nil
 |n+1=>h.append (mq h n)
theorem lL(z:Array Value)(n:Nat):((Array.range (n*z.size)).map fun i=>z[i%z.size]!)=(fO z.toList n).toArray:=by
 apply Array.ext'
 apply List.ext_getElem?
 intro i
 simp only[Array.toList_map,List.getElem?_map,Array.toList_range]
 by_cases hi:i < n*z.size
 ·rw[List.getElem?_range hi,uL z.toList n i (by simpa using hi)]
  have hz:0 < z.size:=by
   rcases Nat.eq_zero_or_pos z.size with h |h
   ·rw[h]at hi;simp at hi
   ·exact h
  have hm:i%z.size < z.size:=Nat.mod_lt _ hz
  simp[hm]
 ·rw[List.getElem?_eq_none (by simp;omega),List.getElem?_eq_none (by rw[iR];simpa using hi)]
  rfl
theorem range_zero':Array.range 0= #[]:=rfl
theorem qE(hE:E.OK P)(hs:dB P σ m w){T A:Operand->Value}{t:TypeId}{n:Nat}{ps:Array (Nat×Operand)}{v:Value}(hv:∀p∈ps.toList,aJ σ (T p.2) (A p.2))
  (h:aE E m t n (ps.toList.map fun p=>(p.1,T p.2))=some (v,m')):uK P σ m w (Instr.buildSlice t n (ps.map fun p=>(p.1,A p.2))) v m':=by
 unfold aE at h
 split at h
 ·cases h
 ·rename_i ti hti
  obtain⟨i,u,f⟩:=hE.jO hti
  split at h
  ·rename_i e hd
   rw[f.d]at hd
   obtain rfl:=cL hd
   split at h
   ·cases h
   ·rename_i z hz
    unfold ig at hz
    cases he:E.ty.get e with
    |none=>rw[he]at hz;simp at hz
    |some ei=>
     rw[he]at hz
     simp only[Option.bind_some]at hz
     obtain⟨ie,ue,fe⟩:=hE.jO he
     have hes:ti.es=ie.size:=by rw[f.es];simp[tK,fe.info]
     cases hb:(Nat.beq (cells z).length ti.es && Nat.ble (n*ti.es) 1048576)with
     |false=>rw[hb]at h;simp at h
     |true=>
      rw[hb]at h
      simp only[cond_true,Option.map_eq_some_iff,Prod.mk.injEq]at h
      obtain⟨cs,hcs,rfl,rfl⟩:=h
      simp only[Bool.and_eq_true]at hb
      have h1:=Nat.eq_of_beq_eq_true hb.1
      have h2:=Nat.le_of_ble_eq_true hb.2
      have hzr:=(aJ.eB (σ:=σ) (hE.flat he hz)).cells
      have hzl:z.cells.size=ie.size:=by have:=hzr.1;simp at this;omega
      have hr:=cZ (w:=w) fe.info (by rw[<-fe.zero];exact hz)
      obtain⟨out',e1,e2⟩:=lf (σ:=σ) (place':=fun j=>some (j*ie.size,ie.size)) (by
       intro j o ho
       rw[hes]at ho
       exact ho) ps.toList (fO (cells z) n) (fO z.cells.toList n).toArray cs hv (by simpa using mq hzr n) hcs
      refine⟨_,_,.slice (some ⟨w.heap.size,0,none⟩) n n,?_,?_,mK hs e2 (e:=e)⟩
      ·have hfill:Instr.fill (fun i=>some (i*ie.size,ie.size)) ((Array.range (n*ie.size)).map (z.cells[·%z.cells.size]!)) (ps.map fun p=>(p.1,A p.2)).toList=some out':=by
        have:=lL z.cells n
        rw[hzl]at this⊢
        rw[this,Array.toList_map]
        exact e1
       by_cases h0:n*ie.size=0
       ·have hz0:(fO z.cells.toList n).toArray= #[]:=by
         apply Array.ext'
         exact List.eq_nil_of_length_eq_zero (by rw[iR];simp only[Array.length_toList];rw[hzl];exact h0)
        have hfill':Instr.fill (fun i=>some (i*ie.size,ie.size)) ((Array.range (n*ie.size)).map ((#[]:Array Value)[·%(#[]:Array Value).size]!)) (ps.map fun p=>(p.1,A p.2)).toList=some out':=by
         rw[<-hfill,h0]
         simp[range_zero']
        simp only[Instr.buildSlice,Sem.run_bind,run_underlying f.dV,Result.andThen_ok,run_sizeOf fe.info,Sem.run_ite]
        rw[if_neg (by rw[hes]at h2;omega)]
        simp only[Sem.run_pure,Result.andThen_ok,h0,if_true]
        rw[h0]at hfill'
        rw[hfill']
        simp[newRow]
       ·simp only[Instr.buildSlice,Sem.run_bind,run_underlying f.dV,Result.andThen_ok,run_sizeOf fe.info,Sem.run_ite]
        rw[if_neg (by rw[hes]at h2;omega)]
        simp only[Sem.run_pure,Result.andThen_ok,h0,if_false,hr]
        rw[hfill]
        simp[newRow]
      ·exact .slice ⟨m.n,0,none⟩ _ n n (Sg.add_same _ _) rfl rfl
  ·cases h
theorem rl(hE:E.OK P)(hs:dB P σ m w){t:TypeId}{l l' c c' v:Value}(hl:aJ σ l l')(hc:aJ σ c c')(h:dA E m t l c=some (v,m')):
  uK P σ m w (Instr.makeSlice t l' c') v m':=by
 unfold dA at h
 split at h
 ·cases h
 ·rename_i ti hti
  obtain⟨i,u,f⟩:=hE.jO hti
  split at h
  ·rename_i e k l k' c hd
   rw[f.d]at hd
   obtain rfl:=cL hd
   split at h
   ·cases h
   ·rename_i ei he
    obtain⟨ie,ue,fe⟩:=hE.jO he
    split at h
    ·cases h
    ·rename_i z hz
     split at h
     ·rename_i hcond
      obtain⟨h1,h2,h3,h4,h5⟩:=hcond
      cases h
      rw[hl.int,hc.int]
      have hzr:=(aJ.eB (σ:=σ) (hE.flat he hz)).cells
      have hzl:z.cells.size=ie.size:=by have:=hzr.1;have:=fe.size;simp at*;omega
      have hr:=cZ (w:=w) fe.info (by rw[<-fe.zero];exact hz)
      have hb:(ie.bytes:Int)*c<=68719476736:=by
       have:(ie.bytes:Int)<=65536:=by have:=fe.bytes;omega
       calc (ie.bytes:Int)*c<=65536*1048576:=Int.mul_le_mul this h3 (by omega) (by omega)
        _=68719476736:=by decide
      have hw1:IntKind.i64.wrap l=l:=by rw[IntKind.wrap_i64];omega
      have hw2:IntKind.i64.wrap c=c:=by rw[IntKind.wrap_i64];omega
      refine⟨_,_,.slice (some ⟨w.heap.size,0,none⟩) l.toNat c.toNat,?_,?_,mK hs (c':=(fO z.cells.toList c.toNat).toArray) (by simpa using mq hzr c.toNat) (e:=e)⟩
      ·have hrz:=lL z.cells c.toNat
       rw[hzl]at hrz
       simp only[Instr.makeSlice,Sem.run_bind,run_underlying f.dV,Result.andThen_ok,asInt,asIntOf,Sem.run_pure,run_typeInfo fe.info,hw1,hw2,Sem.run_ite]
       have ht:¬((decide (c < 0) ||decide ((ie.bytes:Int)*c >2 ^ 48))=true\/l < 0\/l >c):=by
        simp only[Bool.or_eq_true,decide_eq_true_eq]
        omega
       rw[if_neg (by simpa[or_assoc]using ht)]
       simp only[Result.andThen_ok,run_askRoom,run_sizeOf fe.info]
       by_cases h0:c.toNat*ie.size=0
       ·have hz0:(fO z.cells.toList c.toNat).toArray= #[]:=by
         apply Array.ext'
         exact List.eq_nil_of_length_eq_zero (by rw[iR];simp only[Array.length_toList];rw[hzl];exact h0)
        rw[hz0]
        simp[h0,newRow,range_zero']
       ·simp only[if_neg h0,hr,Result.andThen_ok]
        rw[hzl,hrz]
        simp[newRow]
      ·exact .slice ⟨m.n,0,none⟩ _ _ _ (Sg.add_same _ _) rfl rfl
     ·cases h
  ·cases h
end
end Go.D
namespace Go.D
open Go
section
variable {E:Env} {P:Program} {σ:Sg} {m m':M} {w:World}
theorem iB{x x':Value}{y n:Nat}(h:oo x y=some n)(hx:aJ σ x x')(y':Nat)(hy:y<=y')(c:BoundsCode):(Instr.sliceBound x' y' c).run P w=.ok n w/\n<=y:=by
 unfold oo at h
 split at h
 ·rename_i k i
  split at h
  ·rename_i hc
   cases h
   rw[hx.int]
   refine⟨?_,by omega⟩
   have h2:0<=i/\i<=(y':Int):=by omega
   simp only[Instr.sliceBound,Sem.run_bind,asIntOf,Sem.run_pure,Result.andThen_ok,if_pos h2]
  ·cases h
 ·cases h
def ug(σ:Sg)(x x':Option Value):Prop:=match x,x' with
 |none,none=>True
 |some v,some v'=>aJ σ v v'
 |_,_=>False
theorem fl{len cap:Nat}{lo hi mx lo' hi' mx':Option Value}{l h k:Nat}(e:kb len cap lo hi mx=some (l,h,k))(h1:ug σ lo lo')(h2:ug σ hi hi')(h3:ug σ mx mx')
  (hlc:len<=cap) (b:Bool) (cap':Nat) (hc:cap<=cap'):
  (Instr.sliceBounds b len cap' lo' hi' mx').run P w=.ok (l,h,if mx.isNone then cap' else k) w/\l<=h/\h<=k/\k<=cap/\(mx=none->k=cap):=by
 unfold kb at e
 split at e
 ·cases e
 ·rename_i m hm
  split at e
  ·cases e
  ·rename_i h' hh
   split at e
   ·cases e
   ·rename_i l' hl
    cases e
    cases mx with
    |some vm=>
     cases mx' with
     |none=>exact h3.elim
     |some vm'=>
      obtain⟨r1,r2⟩:=iB (P:=P) (w:=w) hm h3 cap' hc (if b then .slice3Acap else .slice3Alen)
      cases hi with
      |none=>simp at hh
      |some vh=>
       cases hi' with
       |none=>exact h2.elim
       |some vh'=>
        simp only at hh
        obtain⟨s1,s2⟩:=iB (P:=P) (w:=w) hh h2 k (Nat.le_refl _) .slice3B
        cases lo with
        |none=>
         cases lo' with
         |some _=>exact h1.elim
         |none=>
          simp only[Option.some.injEq]at hl
          subst hl
          refine⟨?_,by omega,s2,r2,by simp⟩
          simp only[Instr.sliceBounds,Sem.run_bind,r1,s1,Sem.run_pure,Result.andThen_ok]
          rfl
        |some vl=>
         cases lo' with
         |none=>exact h1.elim
         |some vl'=>
          simp only at hl
          obtain⟨t1,t2⟩:=iB (P:=P) (w:=w) hl h1 h (Nat.le_refl _) .slice3C
          refine⟨?_,t2,s2,r2,by simp⟩
          simp[Instr.sliceBounds,Sem.run_bind,r1,s1,t1]
    |none=>
     cases mx' with
     |some _=>exact h3.elim
     |none=>
      simp only[Option.some.injEq]at hm
      subst hm
      have hhk:(match hi' with |some v=>Instr.sliceBound v cap' (if b then .sliceAcap else .sliceAlen) |none=>pure len:Sem Nat).run P w=.ok h w/\h<=cap:=by
       cases hi with
       |none=>
        cases hi' with
        |some _=>exact h2.elim
        |none=>simp only[Option.some.injEq]at hh;subst hh;exact⟨rfl,hlc⟩
       |some vh=>
        cases hi' with
        |none=>exact h2.elim
        |some vh'=>exact iB (P:=P) (w:=w) hh h2 cap' hc _
      have hll:(match lo' with |some v=>Instr.sliceBound v h .sliceB |none=>pure 0:Sem Nat).run P w=.ok l w/\l<=h:=by
       cases lo with
       |none=>
        cases lo' with
        |some _=>exact h1.elim
        |none=>simp only[Option.some.injEq]at hl;subst hl;exact⟨rfl,by omega⟩
       |some vl=>
        cases lo' with
        |none=>exact h1.elim
        |some vl'=>exact iB (P:=P) (w:=w) hl h1 h (Nat.le_refl _) _
      refine⟨?_,hll.2,hhk.2,Nat.le_refl _,fun _=>rfl⟩
      have e1:=hhk.1
      have e2:=hll.1
      simp only[Instr.sliceBounds,Sem.run_bind,Sem.run_pure,Result.andThen_ok]
      cases hi' <;>cases lo' <;>simp_all
theorem aZ{a:Addr}(hs:a.spot=none)(n:Nat):a.add n=⟨a.block,a.off+n,none⟩:=by
 obtain⟨b,o,s⟩:=a
 simp only at hs
 subst hs
 rw[du]
theorem ml(a:Addr)(n:Nat):(a.add n).block=a.block/\(a.add n).off=a.off+n:=by
 unfold Addr.add
 split <;>simp_all
theorem fC{t e:TypeId}{ei:TypeInfo}{a:Option Addr}{n c l h k:Nat}{lo hi mx:Option Value}(hu:P.underlying t=some (.slice e))(he:P.info? e=some ei)
  (hb:(Instr.sliceBounds true n c lo hi mx).run P w=.ok (l,h,k) w):(Instr.sliceAt t (.slice a n c) lo hi mx).run P w=.ok (.slice (if k=l then a else a.map (·.add (l*ei.size))) (h-l) (k-l)) w:=by
 simp only[Instr.sliceAt,Instr.slice,Sem.run_bind,run_underlying hu,Result.andThen_ok,hb,run_sizeOf he,Sem.run_pure]
theorem yA(hE:E.OK P)(hs:dB P σ m w){t:TypeId}{x x' v:Value}{lo hi mx lo' hi' mx':Option Value}(h:slice? E m t x lo hi mx=some v)(hx:aJ σ x x')(h1:ug σ lo lo')(h2:ug σ hi hi')(h3:ug σ mx mx'):
  ∃v',(Instr.sliceAt t x' lo' hi' mx').run P w=.ok v' w/\aJ σ v v':=by
 unfold slice? at h
 split at h
 ·cases h
 ·rename_i ti hti
  obtain⟨i,u,f⟩:=hE.jO hti
  split at h
  ·rename_i s hd
   rw[f.d]at hd
   obtain rfl:=fY hd
   rw[hx.string]
   split at h
   ·rename_i l hh _ hb
    cases h
    cases mx' with
    |some _=>exact h3.elim
    |none=>
     obtain⟨r,_⟩:=fl (P:=P) (w:=w) hb h1 h2 (mx':=none) trivial (Nat.le_refl _) false s.size (Nat.le_refl _)
     refine⟨.string (s.extract l hh),?_,.flat _ rfl⟩
     simp[Instr.sliceAt,Instr.slice,run_underlying f.dV,r]
   ·cases h
  ·rename_i e hd
   rw[f.d]at hd
   obtain rfl:=cL hd
   rw[hx.aK rfl]
   split at h
   ·rename_i p hb
    obtain⟨l,hh,k⟩:=p
    cases hz:Nat.beq ti.es 0 with
    |true=>rw[hz]at h;simp at h
    |false=>
     rw[hz]at h
     simp only[cond_false,Option.some.injEq]at h
     subst h
     obtain⟨ei,hei,hes⟩:=od (P:=P) (u:=.slice e) (by rw[<-f.es];exact Nat.ne_of_beq_eq_false hz) (.inl rfl)
     obtain⟨r,q1,q2,q3,_⟩:=fl (P:=P) (w:=w) hb h1 h2 h3 (Nat.le_refl _) true 0 (Nat.le_refl _)
     obtain rfl:k=0:=by omega
     obtain rfl:hh=0:=by omega
     obtain rfl:l=0:=by omega
     have r':(Instr.sliceBounds true 0 0 lo' hi' mx').run P w=.ok (0,0,0) w:=by simpa using r
     refine⟨.slice none 0 0,?_,.flat _ rfl⟩
     rw[fC f.dV hei r']
     rfl
   ·cases h
  ·rename_i e a n c hd
   rw[f.d]at hd
   obtain rfl:=cL hd
   split at h
   ·rename_i l hh k cs te g hb hg
    cases hz:(Nat.beq ti.es 0 || !(Nat.ble n c))with
    |true=>rw[hz]at h;simp at h
    |false=>
     rw[hz]at h
     simp only[Bool.or_eq_false_iff,Bool.not_eq_false']at hz
     have hnc:=Nat.le_of_ble_eq_true hz.2
     have hes0:=Nat.ne_of_beq_eq_false hz.1
     obtain⟨ei,hei,hes⟩:=od (P:=P) (u:=.slice e) (by rw[<-f.es];exact hes0) (.inl rfl)
     have hsz:ti.es=ei.size:=by rw[f.es,hes]
     simp only[cond_false]at h
     obtain⟨bi,a',c',hbi,rfl,hcase⟩:=hx.cW
     obtain⟨row,hrow,hlen,_,hgr⟩:=hs.cells hbi hg
     cases g with
     |none=>
      obtain⟨hgn,hsz'⟩:=hgr
      simp only[Option.some.injEq]at h
      subst h
      rcases hcase with⟨hsp,rfl,hh2⟩ |⟨_,_,k0,sz,N,hk0,_⟩
      ·rcases hh2 with⟨_,rfl⟩ |⟨k0,sz,N,hk0,_⟩
       ·obtain⟨r,q1,q2,q3,q4⟩:=fl (P:=P) (w:=w) hb h1 h2 h3 hnc true c' (Nat.le_refl _)
        have r':(Instr.sliceBounds true n c' lo' hi' mx').run P w=.ok (l,hh,k) w:=by
         rw[r];cases mx with
         |none=>simp[q4 rfl]
         |some _=>simp
        refine⟨_,fC f.dV hei r',?_⟩
        by_cases hkl:k=l
        ·subst hkl
         simp only[Nat.beq_refl,cond_true,if_true]
         exact .slice a bi _ _ hbi hsp hgn
        ·have:Nat.beq k l=false:=by
          cases hq:Nat.beq k l with
          |true=>exact absurd (Nat.eq_of_beq_eq_true hq) hkl
          |false=>rfl
         rw[this,if_neg hkl]
         simp only[cond_false,Option.map_some,du,aZ hsp]
         rw[hsz]
         exact .slice ⟨a.block,a.off+l*ei.size,none⟩ bi _ _ hbi rfl hgn
       ·rw[hgn]at hk0;cases hk0
      ·rw[hgn]at hk0;cases hk0
     |some k0=>
      obtain⟨hgn,hk0,hpos⟩:=hgr
      dsimp only at h
      cases hq:Nat.beq k0 ti.es with
      |false=>rw[hq]at h;simp at h
      |true=>
       rw[hq]at h
       have hke:=Nat.eq_of_beq_eq_true hq
       simp only[cond_true,Option.some.injEq]at h
       subst h
       have hD:∀A:Addr,(if k=l/\¬(mx=none/\a.off+c*ti.es=cs.length)then a else a.add (l*ti.es))=A->
         (bif Nat.beq k l && !(mx.isNone && Nat.beq (a.off+c*ti.es) cs.length)then a else a.add (l*ti.es))=A:=by
        rintro A rfl
        by_cases c1:k=l
        ·by_cases c2:mx=none
         ·by_cases c3:a.off+c*ti.es=cs.length
          ·simp[c1,c2,c3]
          ·have:Nat.beq (a.off+c*ti.es) cs.length=false:=by
            cases hq2:Nat.beq (a.off+c*ti.es) cs.length with
            |true=>exact absurd (Nat.eq_of_beq_eq_true hq2) c3
            |false=>rfl
           simp[c1,c2,c3,this]
         ·cases mx with
          |none=>exact absurd rfl c2
          |some _=>simp[c1]
        ·have:Nat.beq k l=false:=by
          cases hq2:Nat.beq k l with
          |true=>exact absurd (Nat.eq_of_beq_eq_true hq2) c1
          |false=>rfl
         simp[c1,this]
       rw[hD _ rfl]
       rcases hcase with⟨hsp,rfl,hh2⟩ |⟨rfl,rfl,k1,sz,N,hk1,hoff⟩
       ·rcases hh2 with⟨hgn',_⟩ |⟨k1,sz,N,hk1,hcc⟩
        ·rw[hgn]at hgn';cases hgn'
        ·rw[hgn]at hk1
         simp only[Option.some.injEq,Prod.mk.injEq]at hk1
         obtain⟨rfl,rfl,rfl⟩:=hk1
         have hcc':c<=c':=by
          rcases hcc with rfl |⟨e0,e1,e2⟩
          ·exact Nat.le_refl _
          ·exact e0
         obtain⟨r,q1,q2,q3,q4⟩:=fl (P:=P) (w:=w) hb h1 h2 h3 hnc true c' hcc'
         refine⟨_,fC f.dV hei r,?_⟩
         have hmx:mx=none\/∃y,mx=some y:=by cases mx <;>simp
         rcases hmx with rfl |⟨y,rfl⟩
         ·obtain rfl:=q4 rfl
          simp only[Option.isNone_none,if_true,true_and]
          by_cases hend:a.off+k*ti.es=cs.length
          ·rw[if_neg (by simp[hend])]
           by_cases hkl:k=l
           ·subst hkl
            obtain rfl:hh=k:=by omega
            simp only[Nat.sub_self]
            obtain⟨b1,b2⟩:=ml a (hh*ti.es)
            by_cases hc2:c'=hh
            ·rw[if_pos hc2]
             exact .empty _ _ bi _ k0 _ _ (by rw[b1];exact hbi) hgn (by rw[b2];exact hend)
            ·rw[if_neg hc2]
             exact .empty _ _ bi _ k0 _ _ (by rw[b1];exact hbi) hgn (by rw[b2];exact hend)
           ·rw[if_neg (by omega),aZ hsp,<-hsz]
            simp only[Option.map_some,du]
            refine .fq ⟨a.block,a.off+l*ti.es,none⟩ bi _ _ _ k0 _ _ hbi rfl hgn ?_
            rcases hcc with rfl |⟨e0,e1,e2⟩
            ·exact .inl rfl
            ·refine .inr ⟨by omega,?_,?_⟩
             ·dsimp only
              rw[<-hke,Nat.sub_mul,Nat.add_assoc,Nat.add_sub_cancel' (Nat.mul_le_mul_right _ (by omega))]
              exact e1
             ·dsimp only
              rw[<-hke,Nat.sub_mul,Nat.add_assoc,Nat.add_sub_cancel' (Nat.mul_le_mul_right _ (by omega))]
              exact e2
          ·have hc2:c'=k:=by
            rcases hcc with rfl |⟨e0,e1,e2⟩
            ·rfl
            ·rw[hke]at e1;exact absurd e1 hend
           subst hc2
           simp only[hend,not_false_eq_true,and_true]
           by_cases hkl:c'=l
           ·rw[if_pos hkl,if_pos hkl]
            exact .fq a bi _ _ _ k0 _ _ hbi hsp hgn (.inl rfl)
           ·rw[if_neg hkl,if_neg hkl,aZ hsp,<-hsz]
            simp only[Option.map_some,du]
            exact .fq ⟨a.block,a.off+l*ti.es,none⟩ bi _ _ _ k0 _ _ hbi rfl hgn (.inl rfl)
         ·simp only[Option.isNone_some,Bool.false_eq_true,if_false,reduceCtorEq,false_and,not_false_eq_true,and_true]
          by_cases hkl:k=l
          ·rw[if_pos hkl,if_pos hkl]
           exact .fq a bi _ _ _ k0 _ _ hbi hsp hgn (.inl rfl)
          ·rw[if_neg hkl,if_neg hkl,aZ hsp,<-hsz]
           simp only[Option.map_some,du]
           exact .fq ⟨a.block,a.off+l*ti.es,none⟩ bi _ _ _ k0 _ _ hbi rfl hgn (.inl rfl)
       ·rw[hgn]at hk1
        simp only[Option.some.injEq,Prod.mk.injEq]at hk1
        obtain⟨rfl,rfl,rfl⟩:=hk1
        obtain⟨r,q1,q2,q3,q4⟩:=fl (P:=P) (w:=w) hb h1 h2 h3 hnc true c' (Nat.zero_le _)
        obtain rfl:k=0:=by omega
        obtain rfl:hh=0:=by omega
        obtain rfl:l=0:=by omega
        refine⟨_,fC f.dV hei r,?_⟩
        obtain⟨b1,b2⟩:=ml a (0*ti.es)
        have hA:σ (if 0=0/\¬(mx=none/\a.off+0*ti.es=cs.length)then a else a.add (0*ti.es)).block=some bi/\(if 0=0/\¬(mx=none/\a.off+0*ti.es=cs.length)then a else a.add (0*ti.es)).off=cs.length:=by
         split
         ·exact⟨hbi,hoff⟩
         ·exact⟨by rw[b1];exact hbi,by rw[b2,hoff];simp⟩
        have hR:∃a2,(if(if mx.isNone then c' else 0)=0 then some a' else(some a').map (·.add (0*ei.size)))=some a2:=by
         by_cases hq2:(if mx.isNone then c' else 0)=0
         ·exact⟨_,if_pos hq2⟩
         ·exact⟨_,if_neg hq2⟩
        obtain⟨a2,ha2⟩:=hR
        rw[ha2]
        exact .empty _ _ bi _ k0 _ _ hA.1 hgn hA.2
   ·cases h
  ·rename_i n e a hd
   rw[f.d]at hd
   obtain rfl:=gM hd
   split at h
   ·rename_i l hh k hb
    cases hz:(lI m a ||Nat.beq ti.es 0)with
    |true=>rw[hz]at h;simp at h
    |false=>
     rw[hz]at h
     simp only[cond_false,Option.some.injEq]at h
     subst h
     simp only[Bool.or_eq_false_iff]at hz
     obtain⟨ei,hei,hes⟩:=od (P:=P) (u:=.array n e) (by rw[<-f.es];exact Nat.ne_of_beq_eq_false hz.2) (.inr ⟨n,rfl⟩)
     have hsz:ti.es=ei.size:=by rw[f.es,hes]
     obtain⟨bi,hbi,hsp,rfl⟩:=hx.dO
     have hgn:bi.gr=none:=by
      have h0:=hz.1
      unfold lI at h0
      split at h0
      ·rename_i cs te hg
       obtain⟨_,_,_,_,hgr⟩:=hs.cells hbi hg
       exact hgr.1
      ·cases h0
     obtain⟨r,q1,q2,q3,q4⟩:=fl (P:=P) (w:=w) hb h1 h2 h3 (Nat.le_refl _) false n (Nat.le_refl _)
     have r':(Instr.sliceBounds false n n lo' hi' mx').run P w=.ok (l,hh,k) w:=by
      rw[r];cases mx with
      |none=>simp[q4 rfl]
      |some _=>simp
     refine⟨.slice (some (if k=l then⟨bi.bX,a.off,none⟩else(⟨bi.bX,a.off,none⟩:Addr).add (l*ei.size))) (hh-l) (k-l),by simp only[Instr.sliceAt,Sem.run_bind,run_underlying f.dV,Result.andThen_ok,Instr.sureAddr,Sem.run_pure,r',run_sizeOf hei],?_⟩
     by_cases hkl:k=l
     ·subst hkl
      simp only[Nat.beq_refl,cond_true,if_true]
      exact .slice a bi _ _ hbi hsp hgn
     ·have:Nat.beq k l=false:=by
       cases hq:Nat.beq k l with
       |true=>exact absurd (Nat.eq_of_beq_eq_true hq) hkl
       |false=>rfl
      rw[this,if_neg hkl]
      simp only[cond_false,du,aZ hsp]
      rw[hsz]
      exact .slice ⟨a.block,a.off+l*ei.size,none⟩ bi _ _ hbi rfl hgn
   ·cases h
  ·cases h
end
end Go.D
namespace Go.D
open Go
section
variable {E:Env} {P:Program} {σ:Sg} {m m':M} {w:World}
theorem fL{a b:Nat}(h:a≠b):Nat.beq a b=false:=by
 cases hq:Nat.beq a b with
 |true=>exact absurd (Nat.eq_of_beq_eq_true hq) h
 |false=>rfl
theorem aT.HC{l:List Value}(h:∀v∈l,bL v=true):aT σ l l:=⟨rfl,fun j u u' a b=>by
 rw[a]at b;cases b
 exact .flat _ (h u (List.mem_of_getElem? a))⟩
theorem lS(hs:dB P σ m w){s n:Nat}{x x':Value}{cs:List Value}(h:first? m s n x=some cs)(hx:aJ σ x x')(hn:∀l,kX x=some l->n<=l):
  ∃cs':List Value,(Builtin.firstCells s n x').run P w=.ok cs'.toArray w/\aT σ cs cs':=by
 unfold first? at h
 split at h
 ·rename_i a len cap
  obtain⟨bi,a',c',hbi,rfl,hcase⟩:=hx.cW
  by_cases h0:n=0
  ·subst h0
   simp only[Nat.beq_refl,cond_true,Option.some.injEq]at h
   subst h
   refine⟨[],?_,aT.nil⟩
   have:=run_loadCells_list (P:=P) w a' [] (by simp)
   simpa[Builtin.firstCells]using this
  ·rw[fL h0]at h
   simp only[cond_false]at h
   rcases hcase with⟨hsp,rfl,_⟩ |⟨rfl,_,_⟩
   ·obtain⟨cs',h1,h2,_,_⟩:=fE hs hbi h
    exact⟨cs',by simpa[Builtin.firstCells]using h1,h2⟩
   ·have:=hn 0 rfl;omega
 ·cases h
  obtain⟨_,_,rfl⟩:=hx.dH
  exact⟨[],by simp[Builtin.firstCells],aT.nil⟩
 ·rename_i b
  cases h
  rw[hx.string]
  refine⟨((b.extract 0 n).data.toList.map fun b=> .int .u8 b.toNat),?_,aT.HC ?_⟩
  ·simp only[Builtin.firstCells,Sem.run_pure]
   congr 1
   apply Array.ext'
   simp
  ·intro v hv
   obtain⟨b,_,rfl⟩:=List.mem_map.1 hv
   rfl
 ·cases h
theorem po{x x':Value}{n:Nat}(h:kX x=some n)(hx:aJ σ x x'):(Builtin.lenOf x').run P w=.ok n w:=by
 unfold kX at h
 split at h
 ·cases h
  obtain⟨b',c',rfl,_⟩:=hx.pZ
  rfl
 ·cases h
  rw[hx.string];rfl
 ·cases h
theorem fW{t u ty e:TypeId}{i:TypeInfo}{uu:TypeDesc}(ht:P.underlying t=some (.slice e))(hi:P.info? e=some i)(hu:P.underlying u=some uu)(hni:∀k,uu≠.int k)
  {base:Option Addr} {sl sc n:Nat} {x:Value} {new:List Value} {w':World} (hl:(Builtin.lenOf x).run P w=.ok n w) (hf:(Builtin.firstCells i.size n x).run P w=.ok new.toArray w) (hle:sl+n<=sc)
  (hst:(match base with |some a=>Go.storeCells (a.add (sl*i.size)) new |none=>pure ()).run P w=.ok () w'):
  (Builtin.append_ #[t,u] ty #[.slice base sl sc,x]).run P w=.ok (.slice base (sl+n) sc) w':=by
 cases base with
 |none=>
  simp only[Sem.run_pure]at hst
  cases hst
  simp[Builtin.append_,run_underlying ht,run_underlying hu,run_sizeOf hi,hl,hf,hle]
 |some a=>
  simp only at hst
  simp[Builtin.append_,run_underlying ht,run_underlying hu,run_sizeOf hi,hl,hf,hle,hst]
theorem sA{t u ty e:TypeId}{i:TypeInfo}{uu:TypeDesc}{z:Value}(ht:P.underlying t=some (.slice e))(hi:P.info? e=some i)(hu:P.underlying u=some uu)(hni:∀k,uu≠.int k)
  (hz:i.zero=some z) {base:Option Addr} {sl sc n:Nat} {x:Value} {eO new:List Value} (hl:(Builtin.lenOf x).run P w=.ok n w) (ho:(Builtin.firstCells i.size sl (.slice base sl sc)).run P w.drew=.ok eO.toArray w.drew)
  (hf:(Builtin.firstCells i.size n x).run P w.drew=.ok new.toArray w.drew) (hgt:sc < sl+n) (hb:i.bytes<=65536) (hn:sl+n<=268435456):
  ∃N,sl+n<=N/\(Builtin.append_ #[t,u] ty #[.slice base sl sc,x]).run P w=.ok (.slice (some ⟨w.heap.size,0,none⟩) (sl+n) N) (w.drew.alloc (.cells (eO++new++(Builtin.zeroCells z.cells (N-(sl+n))).toList).toArray e)):=by
 refine⟨grownCap w (sl+n) sc e,grownCap_ge _ _ _ _,?_⟩
 have h1:¬(sl+n<=sc):=by omega
 have hfit:=growslice_fits (bytes:=i.bytes) hgt (by
  calc (sl+n)*i.bytes<=268435456*65536:=Nat.mul_le_mul hn hb
   _<=_:=by decide)
 have h48':¬(281474976710656 < Builtin.nextslicecap (sl+n) sc*i.bytes):=by omega
 have h63':¬(9223372036854775807 < ((sl:Int)+(n:Int))):=by omega
 simp[Builtin.append_,run_underlying ht,run_underlying hu,sizeOf,typeInfo,zeroValue,hi,hz,hl,h1,h48',h63',Question.forced,hf,ho,newRow,grownCap]
 congr 2
 apply Array.ext'
 simp
theorem Ew(hs:dB P σ m w){eO news old' new' rest:List Value}{e k sl n N:Nat}(h1:aT σ eO old')(h2:aT σ news new')(l1:eO.length=sl*k)(l2:news.length=n*k)(hk:0 < k)(hn:0 < sl+n)
  (hN:sl+n<=N) (lr:rest.length=(N-(sl+n))*k):
  Ev P σ m w (σ.add m.n ⟨w.heap.size,some (k,(sl+n)*k,N*k)⟩) (m.push (.cells (eO++news) e (some k))) (w.drew.alloc (.cells (old'++new'++rest).toArray e))/\
  aJ (σ.add m.n ⟨w.heap.size,some (k,(sl+n)*k,N*k)⟩) (.slice (some ⟨m.n,0,none⟩) (sl+n) (sl+n)) (.slice (some ⟨w.heap.size,0,none⟩) (sl+n) N):=by
 have hlen:(eO++news).length=(sl+n)*k:=by rw[List.length_append,l1,l2,Nat.add_mul]
 have hlen':(old'++new').length=(sl+n)*k:=by rw[<-hlen,(h1.append h2).1]
 have hsz:((old'++new'++rest).toArray).size=N*k:=by
  rw[List.size_toArray,List.length_append,hlen',lr,<-Nat.add_mul]
  congr 1;omega
 have hpos:0 < (sl+n)*k:=Nat.mul_pos hn hk
 have hle:(sl+n)*k<=N*k:=Nat.mul_le_mul_right _ hN
 have hs':dB P σ m w.drew:=hs.of_heap rfl
 have hrow:=Cq (g:=some k) (e:=e) (c:=eO++news) (c':=(old'++new'++rest).toArray) hs' (by rw[hlen,hsz];exact hle) (by
  rw[hlen,<-hlen']
  simp only[List.take_left']
  exact h1.append h2) (by
  refine⟨?_,hk,by rw[hlen];exact hpos⟩
  rfl)
 have he:Nj (eO++news).length ((old'++new'++rest).toArray).size (some k)=some (k,(sl+n)*k,N*k):=by rw[hlen,hsz];rfl
 rw[he]at hrow
 refine⟨(Ev.of_heap hs rfl rfl rfl rfl:Ev P σ m w σ m w.drew).trans hrow,?_⟩
 exact .fq ⟨m.n,0,none⟩ ⟨w.heap.size,_⟩ _ _ _ k ((sl+n)*k) (N*k) (Sg.add_same _ _) rfl rfl (.inr ⟨hN,by simp,by simp⟩)
theorem xD(hE:E.OK P)(hs:dB P σ m w){t u ty:TypeId}{s x s' x' v:Value}(h:dD E m t u s x=some (v,m'))(hx:aJ σ s s')(hy:aJ σ x x'):
  uK P σ m w (Builtin.append_ #[t,u] ty #[s',x']) v m':=by
 unfold dD at h
 split at h
 ·rename_i ti ui base sl sc n hti hui hlx
  obtain⟨i,ut,f⟩:=hE.jO hti
  obtain⟨iu,uu,fu⟩:=hE.jO hui
  split at h
  ·cases h
  ·rename_i e hd hni
   rw[f.d]at hd
   obtain rfl:=cL hd
   have hni':∀k,uu≠.int k:=by
    rintro k rfl
    exact hni k fu.d
   split at h
   ·rename_i ei news hei hfn
    obtain⟨ie,ue,fe⟩:=hE.jO hei
    have hsz:ti.es=ie.size:=by rw[f.es];simp[tK,fe.info]
    cases hb:(Nat.beq ti.es 0 ||Nat.blt 65536 ei.bytes || !news.all one ||Nat.blt 268435456 (sl+n) || !Nat.beq news.length (n*ti.es) || !fT ei.zero ti.es)with
    |true=>rw[hb]at h;simp at h
    |false=>
     rw[hb]at h
     simp only[cond_false]at h
     simp only[Bool.or_eq_false_iff,Bool.not_eq_false']at hb
     obtain⟨⟨⟨⟨⟨b1,b2⟩,b3⟩,b4⟩,b5⟩,b6⟩:=hb
     have hes0:=Nat.ne_of_beq_eq_false b1
     have hby:ie.bytes<=65536:=by rw[dQ]at b2;have:=fe.bytes;simp at b2;omega
     have hneed:sl+n<=268435456:=by rw[dQ]at b4;simp at b4;omega
     have hnl:=Nat.eq_of_beq_eq_true b5
     obtain⟨z,hz,hzl⟩:∃z,ie.zero=some z/\z.cells.size=ie.size:=by
      cases hzz:ei.zero with
      |none=>rw[hzz]at b6;simp[fT]at b6
      |some z=>
       rw[hzz]at b6
       have:=Nat.eq_of_beq_eq_true b6
       have hzr:=(aJ.eB (σ:=σ) (hE.flat hei hzz)).cells.1
       refine⟨z,by rw[<-fe.zero];exact hzz,?_⟩
       simp only[Array.length_toList]at hzr
       omega
     have hln:=fun w=>po (P:=P) (w:=w) hlx hy
     have hfirst:=fun(w:World) (hs:dB P σ m w)=>lS (P:=P) hs hfn hy (fun l hl=>by rw[hlx]at hl;cases hl;exact Nat.le_refl _)
     rw[hsz]at hfirst hnl
     cases hfit:Nat.ble (sl+n) sc with
     |true=>
      rw[hfit]at h
      have hle:=Nat.le_of_ble_eq_true hfit
      simp only[cond_true]at h
      obtain⟨new',hf',hr'⟩:=hfirst w hs
      cases base with
      |none=>
       obtain⟨rfl,rfl,rfl⟩:=hx.dH
       simp only at h
       obtain rfl:n=0:=by omega
       simp only[Nat.beq_refl,cond_true,Option.some.injEq,Prod.mk.injEq]at h
       obtain⟨rfl,rfl⟩:=h
       refine uK.pure hs (fW f.dV fe.info fu.dV hni' (base:=none) (hln w) hf' (Nat.le_refl _) rfl) (.flat _ rfl)
      |some a=>
       obtain⟨bi,a',c',hbi,rfl,hcase⟩:=hx.cW
       by_cases h0:n=0
       ·subst h0
        simp only[Nat.beq_refl,cond_true,Option.map_some,Option.some.injEq,Prod.mk.injEq]at h
        obtain⟨rfl,rfl⟩:=h
        have hnil:new'=[]:=by
         have:=hr'.1
         rw[hnl]at this
         simpa using this.symm
        subst hnil
        have hcc':sl+0<=c':=by
         rcases hcase with⟨_,_,⟨_,rfl⟩ |⟨k,sz,N,hk,rfl |⟨e0,e1,e2⟩⟩⟩ |⟨rfl,_⟩ <;>omega
        refine uK.pure hs (fW f.dV fe.info fu.dV hni' (base:=some a') (hln w) hf' hcc' rfl) hx
       ·rw[fL h0]at h
        simp only[cond_false,Option.map_eq_some_iff,Prod.mk.injEq]at h
        obtain⟨m2,hst,rfl,rfl⟩:=h
        rcases hcase with⟨hsp,rfl,hcc⟩ |⟨rfl,rfl,_⟩
        ·have hcc':sl+n<=c':=by
          rcases hcc with⟨_,rfl⟩ |⟨k,sz,N,hk,rfl |⟨e0,e1,e2⟩⟩ <;>omega
         rw[aZ hsp,hsz]at hst
         obtain⟨w',hw1,hw2,_⟩:=fc (a:=⟨a.block,a.off+sl*ie.size,none⟩) hs hbi hr' hst
         refine⟨σ,w',_,fW f.dV fe.info fu.dV hni' (base:=some ⟨bi.bX,a.off,none⟩) (hln w) hf' hcc' (by simp only[du];exact hw1),?_,hw2⟩
         rcases hcc with⟨hg,rfl⟩ |⟨k,sz,N,hk,hc⟩
         ·exact .slice a bi _ _ hbi hsp hg
         ·exact .fq a bi _ _ _ k sz N hbi hsp hk hc
        ·omega
     |false=>
      rw[hfit]at h
      have hgt:sc < sl+n:=by
       rcases Nat.lt_or_ge sc (sl+n)with hh |hh
       ·exact hh
       ·rw[Nat.ble_eq_true_of_le hh]at hfit;cases hfit
      simp only[cond_false]at h
      have hkp:0 < ti.es:=by omega
      have fresh:∀(m1:M) (base':Option Addr) (c':Nat) (eO old':List Value),Ev P σ m w σ m1 w->m1.n=m.n->
        (Builtin.firstCells ie.size sl (.slice base' sl c')).run P w.drew=.ok old'.toArray w.drew->aT σ eO old'->eO.length=sl*ti.es->c' < sl+n->
        s'=.slice base' sl c'->v=.slice (some ⟨m.n,0,none⟩) (sl+n) (sl+n)->m'=m1.push (.cells (eO++news) e (some ti.es))->uK P σ m w (Builtin.append_ #[t,u] ty #[s',x']) v m':=by
       rintro m1 base' c' eO old' he hmn ho hro hol hc rfl rfl rfl
       obtain⟨new',hf',hr'⟩:=hfirst w.drew (hs.of_heap rfl)
       obtain⟨N,hN,hrun⟩:=sA (ty:=ty) f.dV fe.info fu.dV hni' hz (hln w) ho hf' hc hby hneed
       obtain⟨g1,g2⟩:=Ew (e:=e) (rest:=(Builtin.zeroCells z.cells (N-(sl+n))).toList) he.nG hro hr' hol (by rw[hnl,hsz]) hkp (by omega) hN (by
        rw[Array.length_toList,size_zeroCells,hzl,hsz])
       refine⟨_,_,_,hrun,?_,he.trans g1⟩
       rw[hmn]at g2⊢
       exact g2
      unfold jA at h
      split at h
      ·cases hq:(Nat.beq sl 0 && Nat.beq sc 0)with
       |false=>rw[hq]at h;simp at h
       |true=>
        rw[hq]at h
        simp only[cond_true,Option.some.injEq,Prod.mk.injEq]at h
        simp only[Bool.and_eq_true]at hq
        obtain rfl:=Nat.eq_of_beq_eq_true hq.1
        obtain rfl:=Nat.eq_of_beq_eq_true hq.2
        obtain⟨rfl,rfl⟩:=h
        refine fresh m none 0 [] [] (Ev.refl hs) rfl (by simp[Builtin.firstCells]) aT.nil (by simp) hgt (hx.aK rfl) rfl rfl
      ·rename_i a
       obtain⟨bi,a',c',hbi,hx',hcase⟩:=hx.cW
       split at h
       ·rename_i cs te g eO hg hold
        obtain⟨row,hrow,hlen,hrr,hgr⟩:=hs.cells hbi hg
        have hfo:∀w1,dB P σ m w1->∃old',(Builtin.firstCells ie.size sl (.slice (some a') sl c')).run P w1=.ok (old':List Value).toArray w1/\aT σ eO old':=by
         intro w1 h1
         have hfirst0:first? m ti.es sl (.slice (some a) sl sc)=some eO:=hold
         have:=lS (P:=P) h1 hfirst0 hx (fun l hl=>by cases hl;exact Nat.le_refl _)
         rw[hx',hsz]at this
         exact this
        have hol:eO.length=sl*ti.es:=by
         by_cases h0:sl=0
         ·subst h0
          simp only[Nat.beq_refl,cond_true,Option.some.injEq]at hold
          subst hold;simp
         ·rw[fL h0]at hold
          simp only[cond_false]at hold
          obtain⟨_,_,_,hl,_⟩:=fE hs hbi hold
          exact hl
        obtain⟨old',hfo',hro⟩:=hfo w.drew (hs.of_heap rfl)
        cases hq:(g.isNone ||(g==some ti.es && Nat.blt (a.off+sc*ti.es) cs.length))with
        |true=>
         rw[hq]at h
         simp only[cond_true,Option.some.injEq,Prod.mk.injEq]at h
         obtain⟨rfl,rfl⟩:=h
         refine fresh m (some a') c' eO old' (Ev.refl hs) rfl hfo' hro hol ?_ hx' rfl rfl
         cases g with
         |none=>
          have hg0:=hgr.1
          rcases hcase with⟨_,_,⟨_,rfl⟩ |⟨k,sz,N,hk,_⟩⟩ |⟨_,_,k,sz,N,hk,_⟩
          ·exact hgt
          ·rw[hg0]at hk;cases hk
          ·rw[hg0]at hk;cases hk
         |some k0=>
          obtain⟨hgr1,hgr2,hgr3⟩:=hgr
          simp only[Option.isNone_some,Bool.false_or,Bool.and_eq_true,beq_iff_eq,Option.some.injEq]at hq
          obtain⟨rfl,hq⟩:=hq
          rw[dQ]at hq
          simp only[decide_eq_true_eq]at hq
          rcases hcase with⟨_,_,⟨_,rfl⟩ |⟨k,sz,N,hk,hcc⟩⟩ |⟨_,rfl,k,sz,N,hk,hoff⟩
          ·exact hgt
          ·rw[hgr1]at hk
           simp only[Option.some.injEq,Prod.mk.injEq]at hk
           obtain⟨rfl,rfl,rfl⟩:=hk
           rcases hcc with rfl |⟨e0,e1,e2⟩
           ·exact hgt
           ·omega
          ·rw[hgr1]at hk
           simp only[Option.some.injEq,Prod.mk.injEq]at hk
           obtain⟨rfl,rfl,rfl⟩:=hk
           omega
        |false=>
         rw[hq]at h
         simp only[cond_false]at h
         cases hq2:(g==some ti.es && Nat.beq a.off 0 && a.spot.isNone && Nat.beq (sl*ti.es) cs.length && Nat.beq sc sl && Nat.beq te e)with
         |false=>rw[hq2]at h;simp at h
         |true=>
          rw[hq2]at h
          simp only[cond_true,Option.some.injEq,Prod.mk.injEq]at h
          obtain⟨rfl,rfl⟩:=h
          simp only[Bool.and_eq_true]at hq2
          obtain⟨⟨⟨⟨⟨q1,q2⟩,q3⟩,q4⟩,q5⟩,q6⟩:=hq2
          obtain rfl:=Nat.eq_of_beq_eq_true q6
          have q1:g=some ti.es:=by simpa using q1
          subst q1
          have q2:=Nat.eq_of_beq_eq_true q2
          have q4:=Nat.eq_of_beq_eq_true q4
          obtain rfl:=Nat.eq_of_beq_eq_true q5
          obtain⟨hgr1,hgr2,hgr3⟩:=hgr
          have hdead:m.get a.block≠.dead:=by rw[hg];simp
          by_cases hc2:c' < sc+n
          ·have hw:=Ev.write (w':=w) (ob:=.dead) hs hbi hdead trivial (fun _ _=>rfl) rfl rfl rfl rfl
           exact fresh _ (some a') c' eO old' hw rfl hfo' hro hol hc2 hx' rfl rfl
          ·
           have hsl:sc≠0:=by rintro rfl;simp at q4;omega
           rcases hcase with⟨hsp,rfl,hcc⟩ |⟨rfl,_⟩
           ·rcases hcc with⟨hg0,_⟩ |⟨k,sz,N,hk,hcc⟩
            ·rw[hgr1]at hg0;cases hg0
            ·rw[hgr1]at hk
             simp only[Option.some.injEq,Prod.mk.injEq]at hk
             obtain⟨rfl,rfl,rfl⟩:=hk
             rcases hcc with rfl |⟨e0,e1,e2⟩
             ·omega
             ·obtain⟨new',hf',hr'⟩:=hfirst w hs
              have hold':eO=cs:=by
               rw[fL hsl]at hold
               simp only[cond_false]at hold
               unfold loadCells at hold
               rw[hg]at hold
               simp only[q2,Nat.zero_add,q4,List.drop_zero,List.take_length]at hold
               cases hq3:(a.spot.isNone && Nat.ble cs.length cs.length)with
               |false=>rw[hq3]at hold;simp at hold
               |true=>rw[hq3]at hold;simpa using hold.symm
              subst hold'
              have hnl':new'.length=n*ti.es:=by rw[<-hr'.1,hnl,hsz]
              have hroom:(sc+n)*ti.es<=row.size:=by
               rw[<-e2,q2,Nat.zero_add]
               exact Nat.mul_le_mul_right _ (by omega)
              rw[Nat.add_mul]at hroom
              have hone:=hr'.lO b3
              have hst:=run_storeCells_at (P:=P) bi.bX (sc*ti.es) te new' 0 row w hrow (by omega) hone
              simp only[Nat.add_zero]at hst
              have hla:(row.toList.take (sc*ti.es)++new').length=(sc+n)*ti.es:=by
               rw[List.length_append,List.length_take,hnl',Nat.add_mul,Array.length_toList];omega
              have hlr:(row.toList.take (sc*ti.es)++new'++row.toList.drop (sc*ti.es+new'.length)).length=row.size:=by
               rw[List.length_append,hla,List.length_drop,hnl',Array.length_toList,Nat.add_mul];omega
              have hlo:(eO++news).length=(sc+n)*ti.es:=by rw[List.length_append,hol,hnl,<-hsz,Nat.add_mul]
              have hrel:aT σ (eO++news) (row.toList.take (sc*ti.es)++new'):=by
               rw[q4];exact hrr.append hr'
              have hEv:=Ev.MX (ob:=.cells (eO++news) te (some ti.es)) (gr:=some (ti.es,(sc+n)*ti.es,row.size)) (w':=w.setRow bi.bX (row.toList.take (sc*ti.es)++new'++row.toList.drop (sc*ti.es+new'.length)).toArray) hs hbi hdead
               (by
                refine⟨_,setRow_heap w bi.bX row _ te _ hrow,?_,?_,?_⟩
                ·rw[hlo,List.size_toArray,hlr,Nat.add_mul];exact hroom
                ·rw[hlo,<-hla]
                 simp only[List.take_left']
                 exact hrel.mono (Sg.qo hs.jh)
                ·have hlr2:=hlr
                 rw[<-List.size_toArray]at hlr2
                 rw[hlo,hlr2]
                 exact⟨rfl,hkp,Nat.mul_pos (by omega) hkp⟩)
               (fun B hB=>by
                simp only[World.setRow,Array.getElem?_modify]
                rw[if_neg (fun e=>hB e.symm)])
               (by simp[World.setRow]) rfl rfl rfl
              have hrun:=fW (ty:=ty) f.dV fe.info fu.dV hni' (base:=some ⟨bi.bX,a.off,none⟩) (hln w) hf' (show sc+n<=c' by omega) (by
               simp only[du,q2,Nat.zero_add,<-hsz]
               exact hst)
              rw[hx']
              refine⟨_,_,_,hrun,?_,hEv⟩
              rw[q2]
              exact .fq ⟨m.n,0,none⟩ ⟨bi.bX,some (ti.es,(sc+n)*ti.es,row.size)⟩ _ _ _ ti.es ((sc+n)*ti.es) row.size (Sg.add_same _ _) rfl rfl (.inr ⟨by omega,by simp,by rw[<-e2,q2]⟩)
           ·omega
       ·cases h
   ·cases h
  ·cases h
 ·cases h
end
end Go.D
