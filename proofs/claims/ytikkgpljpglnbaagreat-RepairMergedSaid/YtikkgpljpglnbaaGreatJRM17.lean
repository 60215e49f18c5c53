import Derived.Test.YtikkgpljpglnbaaGreatCRMSemAppend
import Derived.Test.YtikkgpljpglnbaaGreatJRM14
namespace Wx
open Go Go.RowKit
structure It where
 p:Pred
 nl:aA p
structure Bk where
 b:Nat
 sz:Nat
 agg:Bool
 items:List It
def Bk.put (e:Bk) (b idx:Nat) (it:It):Bk:=if e.b=b then { e with items:=e.items.set idx it }else e
def yD (H:List Bk) (b idx:Nat) (it:It):List Bk:=H.map λe=>e.put b idx it
section
variable {P:Program} {ops:Array Oper} {ms:List Nat} {c:cM} {V:List Vr} {A:List Al} {G:List aV} {i:Nat} {L:Nat->Bool} {β:Nat->Nat->Prop} {a:Act} {w:World} {o:Oper}{d:Nat} {x y z:Operand} {ty:TypeId} {pos:String} {aL:Array Edge}
theorem aT.JS (h:aT c V A G L β a w) (hwf:kD c.N ops V A G i o) (hnone:o.dst=none) {x:Vr} (hx:x∈V) (eI:live L x=true) (I5:x.kd=.obj) (hnb:gj o.op=false) {g:Nat} (hgx:β x.id g)
  {cs cs':List Value} {T:TypeId} (hcs:w.heap[g]?=some (.cells cs.toArray T (0,0))) (hn:∀u∈cs',gv u)
  (hc:aM (minus (own c V L β) (β x.id)) (λw=>cont (upd L i) x.c0 x.st (β x.id) w (sl a x.slot)) (w.setRow g cs'.toArray)) (nW:(V.all λy=>y.id==x.id||y.st.all λq=>q.1 != i)=true) (u:Value):
  Inv c V A G (upd L i) (a.put o.dst u) (w.setRow g cs'.toArray):=by
 have nb:=qA hwf hnb
 have hlo:x.lo=0:=by unfold Vr.lo; rw[I5]
 have og:∀o,own c V L β g o:=λo=>.inr ⟨x,hx,eI,hgx,by rw[hlo]; exact Nat.zero_le _⟩
 have ext:∀M:Nat->Nat->Prop,(∀o,M g o)->Ext M w (w.setRow g cs'.toArray):=λM hM=>⟨Nat.le_of_eq size_setRow.symm,λk hk hno=>aC λe=>hno 0 (by rw[e]; exact hM 0),λk o v hno hv=>by
  have xu:k≠g:=λe=>hno (by rw[e]; exact hM o)
  rw[World.cell?_of_block (w:=w) (a:=⟨k,o,none⟩) (aC xu)]; exact hv⟩
 have he:Ext (own c V L β) w (w.setRow g cs'.toArray):=ext _ og
 have qw:=h.var x hx eI
 have hnew:=(qw.blk hgx).1
 have hput:a.put o.dst u=a:=by rw[hnone]; rfl
 have AK:∀k,k<c.w0.heap.size->¬c.gw k->k≠g:=λk h1 h2 e=>hnew.elim (λh3=>by omega) (λh3=>h2 (e▸h3))
 rw[hput]
 refine⟨β,h.size,h.defers,⟨h.below.os,h.below.tape,h.below.output,Nat.le_trans h.below.size (Nat.le_of_eq size_setRow.symm),λk hk hn=>(aC (AK k hk hn)).trans (h.below.block k hk hn)⟩,h.pZ λk hk hn=>aC (AK k hk hn),?_,?_,?_,?_⟩
 ·intro y hy hl'
  rw[cE (nb y hy).1 (nb y hy).2]at hl'
  rw[gm nb]
  by_cases qO:y.id=x.id
  ·have:y=x:=hwf.vu y x hy hx qO
   subst this
   refine(aK I5).2 ⟨λk hk=>?_,hc⟩
   obtain⟨h1,h2,h3⟩:=((aK I5).1 qw).1 k hk
   refine⟨h1,by rw[size_setRow]; exact h2,λo v hv=>?_⟩
   by_cases xu:k=g
   ·subst xu
    simp only[World.cell?,setRow_heap w _ _ _ _ _ hcs]at hv
    have:cs'[o]?=some v:=by simpa using hv
    exact hn v (List.mem_of_getElem? this)
   ·rw[World.cell?_of_block (w:=w) (a:=⟨k,o,none⟩) (aC xu)]at hv
    exact h3 o v hv
  ·rw[List.all_eq_true]at nW
   have h5:=nW y hy
   simp only[Bool.or_eq_true,beq_iff_eq,qO,false_or,List.all_eq_true,bne_iff_ne]at h5
   have KA:¬β y.id g:=λe=>h.apart y x g hy hx hl' eI qO e hgx
   exact(h.var y hy hl').keep rfl rfl (λg' sF=>aC λe=>KA (e▸sF)) (Nat.le_of_eq size_setRow.symm) (λF hF=>hF.ext he) (λF hF=>hF.ext (ext _ λo=>⟨og o,KA⟩)) (jo h5)
 ·intro y y' g' hy hy' h1 h2 hne
  rw[cE (nb y hy).1 (nb y hy).2]at h1
  rw[cE (nb y' hy').1 (nb y' hy').2]at h2
  exact h.apart y y' g' hy hy' h1 h2 hne
 ·intro p hp hl' hcd
  have hpt:p.tag≠some i:=λe=>by have:=hwf.a2 p hp e; rw[hnone]at this; cases this
  rw[bX hpt]at hl'
  exact h.al p hp hl' hcd
 ·intro e AH hl' hf
  obtain⟨hf,IU⟩:=jW hf
  have ht:e.tag≠some i:=λe'=>by have:=hwf.g2 e AH e'; rw[hnone]at this; cases this
  rw[bX ht]at hl'
  rw[gm nb]
  exact(h.gY e AH hl' hf).ext he
theorem Be (hI:aT c V A G L β a w) (hd:mB ms i L) {v:Vr} (hv:v∈V) (ho:bA ms i v=true) (bS:v.kd=.obj):xz (own c V L β) c L a w v (β v.id):=(aK bS).1 (hI.var v hv (hd.live ho))
theorem rW (hd:mB ms i L) {st:List (Nat×Rel)} {p:Rel} (h:(st.all λq=>(q.1==i||(ms.getD i 0).testBit q.1)||(ms.getD q.1 0).testBit i)=true):cont L p st=cont (λj=>(ms.getD i 0).testBit j) p st:=by
 rw[List.all_eq_true]at h
 refine ir λq hq=>?_
 have:=h q hq
 simp only[Bool.or_eq_true,beq_iff_eq]at this
 rcases this with(h5|h5)|h5
 ·rw[h5,hd.no,hd.irrefl]
 ·rw[hd.before _ h5,h5]
 ·have h6:=hd.behind _ h5
  rw[h6]
  cases h7:(ms.getD i 0).testBit q.1 with
  |false=>rfl
  |true=>rw[hd.before _ h7]at h6; cases h6
variable {T E:TypeId} {n cap:Nat}
theorem Bl {sz b o':Nat} {m:Int} (h:Has ms G i x (bp (.slice (some ⟨b,o',none⟩) n cap))) (hy:Has ms G i y (pI m)) (ht:pD P T E sz) (h0:0<=m) (h1:m<n) (hA:(A.all λq=>q.tag != some i)=true) (hp:Post G i (bp (.pointer (some ⟨b,o'+m.toNat*sz,none⟩)))):
  OpOk P ops ms c V A G i ⟨some d,.indexAddr T x y,ty,pos,aL,none⟩:=
 cq rfl rfl rfl (.inr hA) hp λL β a w hI hd=>by
  have hx:a.eval x=.slice (some ⟨b,o',none⟩) n cap:=(h.spec hI hd).out
  have hi:a.eval y=.int .i64 m:=(hy.spec hI hd).out
  refine⟨_,w,?_,Below.refl _ _,λ_ _=>rfl⟩
  show(do pure (Next.value (<-Instr.indexAt T (a.eval x) (a.eval y)))).run P w=_
  rw[hx,hi,Sem.run_bind,lG ht h0 h1]
  rfl
theorem Gp {A':Option Addr} (h:Has ms G i x (bp (.slice A' n cap))) (ht:P.underlying T=some (.slice E)) (hp:Post G i (pI (n:Int))):
  OpOk P ops ms c V A G i ⟨some d,.call ⟨.builtin .len,#[x],#[T]⟩,ty,pos,aL,none⟩:=
 iT rfl rfl rfl rfl h hp λρ w h=>⟨.int .i64 n,by
  have h:ρ x=.slice A' n cap:=h
  have hr:(Builtin.len_ #[T] ty #[ρ x]).run P w=.ok (.int .i64 n) w:=by
   rw[h]
   unfold Builtin.len_
   simp[run_underlying ht,goInt]
  show(do let d <-resolve ρ ⟨.builtin .len,#[x],#[T]⟩ ty; invoke d.target d.args).run P w=_
  simp only[resolve,invoke,pure_bind,builtin]
  rw[show(#[x]:Array Operand).map ρ=#[ρ x] by simp,Sem.run_bind,hr]
  rfl,λ_ _=>rfl⟩
end
end Wx

namespace Wx
open Go Go.RowKit
theorem mS:mB [0] 0 none_:=⟨rfl,λj h=>by simp at h,λ_ _=>rfl⟩
section
variable {P:Program} {Q:Exit->Act->World->Prop} {c:cM} {V:List Vr} {A:List Al} {G:List aV} {a:Act} {w:World} {o:Oper}{d:Nat} {x y z:Operand} {ty:TypeId} {pos:String} {aL:Array Edge}{K:Act->World->Prop}
theorem Does.mono {K':Act->World->Prop} (h:Does P o a w K) (hK:∀a w,K a w->K' a w):Does P o a w K':=by
 unfold Does at *
 generalize (execOp a.eval o).run P w=r at *
 match r,h with
 |.ok (.value v) w',h=>exact hK _ _ h
 |.ok .skip w',h=>exact hK _ _ h
 |.ok (.enter f args) w',h=>exact h.mono λe w'' ⟨v,h1,h2⟩=>⟨v,h1,hK _ _ h2⟩
theorem cO.of {ops:Array Oper} (hg:o.guard=none) (h:Does P o a w K):cO P ops o a w K:=by
 unfold cO
 rw[if_pos (by simp[Region.wanted,hg])]
 exact h
end
end Wx

namespace Wx
open Go Go.RowKit
theorem mc {M:Nat->Nat->Prop} {B:Nat->Prop} {w:World} (h:cR M w):cR (minus M B) w:=λk o hk=>h k o hk.1
section
variable {P:Program} {Q:Exit->Act->World->Prop} {c:cM} {V:List Vr} {A:List Al} {G:List aV} {a:Act} {w:World} {o:Oper}{d:Nat} {x y z u:Operand} {ty:TypeId} {pos:String} {aL:Array Edge}{fn:Func}
end
end Wx

namespace Wx
open Go Go.RowKit
section
variable {P:Program} {Q:Exit->Act->World->Prop} {c:cM} {V:List Vr} {A:List Al} {G:List aV} {a:Act} {w:World}
end
def QF (H:List Bk) (b:Nat) (X:List It):List Bk:=H.map λe=>if e.b=b then { e with items:=X }else e
end Wx

namespace Wx
open Go Go.RowKit
theorem sA (A:Option Addr) (n cap:Nat):Fits 1 false (bp (.slice A n cap)):=jO (fQ _ _ _) rfl rfl
section
variable {L1 L2:List Rat} {s1 s2 k:Nat} {f:Rat}
end
end Wx

namespace Wx
open Go Go.RowKit
def qG:List Fd->Nat->Option (List Fd)
 |[],n=>match Nat.beq n 0 with
  |true=>some []
  |false=>none
 |⟨ag,m,p⟩::fs,n=>match Nat.beq n 0 with
  |true=>some []
  |false=>match Nat.ble m n with
   |true=>match qG fs (Nat.sub n m)with
    |some l=>some (⟨ag,m,p⟩::l)
    |none=>none
   |false=>none
def xh:List Fd->Nat->Nat->Option (List Fd)
 |[],_,n=>qG [] n
 |⟨ag,m,p⟩::fs,off,n=>match Nat.beq off 0 with
  |true=>qG (⟨ag,m,p⟩::fs) n
  |false=>match Nat.ble m off with
   |true=>xh fs (Nat.sub off m) n
   |false=>none
def Gl:Bool->Option (List Fd)->Option Pred
 |true,some [⟨true,_,p⟩]=>some p
 |true,some l=>some (pS l)
 |false,some [⟨false,_,p⟩]=>some p
 |_,_=>none
def uO:List Fd->Nat->Option (List Fd)
 |[],n=>match Nat.beq n 0 with
  |true=>some []
  |false=>none
 |⟨ag,m,p⟩::fs,n=>match Nat.beq n 0 with
  |true=>some (⟨ag,m,p⟩::fs)
  |false=>match Nat.ble m n with
   |true=>uO fs (Nat.sub n m)
   |false=>none
def xP:List Fd->Option (List Fd)->Option (List Fd)
 |[],r=>r
 |g::gs,r=>match xP gs r with
  |some l=>some (g::l)
  |none=>none
def vF (gs:List Fd) (n:Nat):List Fd->Nat->Option (List Fd)
 |[],_=>match Nat.beq n 0 with
  |true=>xP gs (some [])
  |false=>none
 |⟨ag,m,p⟩::fs,off=>match Nat.beq off 0 with
  |true=>xP gs (uO (⟨ag,m,p⟩::fs) n)
  |false=>match Nat.ble m off with
   |true=>match vF gs n fs (Nat.sub off m)with
    |some l=>some (⟨ag,m,p⟩::l)
    |none=>none
   |false=>none
theorem G6:∀{fs:List Fd} {n:Nat} {l:List Fd} {w:World} {cs:List Value},qG fs n=some l->aI fs w cs->aI l w (cs.take n)/\n<=cs.length:=by
 intro fs
 induction fs with
 |nil=>
  intro n l w cs h hc
  unfold qG at h
  split at h
  ·rename_i hb; have hb:=Nat.eq_of_beq_eq_true hb; subst hb; cases h; exact⟨rfl,Nat.zero_le _⟩
  ·cases h
 |cons f fs ih=>
  intro n l w cs h hc
  obtain⟨ag,m,p⟩:=f
  unfold qG at h
  split at h
  ·rename_i hb; have hb:=Nat.eq_of_beq_eq_true hb; subst hb; cases h; exact⟨rfl,Nat.zero_le _⟩
  ·split at h
   ·rename_i hm
    have hm:=Nat.le_of_ble_eq_true hm
    split at h
    ·rename_i l' hl
     cases h
     obtain⟨h1,h2,h3⟩:=hc
     obtain⟨k1,k2⟩:=ih hl h3
     simp only[List.length_drop]at k2 h1
     have k2:n-m<=cs.length-m:=k2
     refine⟨⟨?_,?_,?_⟩,by omega⟩
     ·show m<=(cs.take n).length; rw[List.length_take]; omega
     ·show p w (au ag ((cs.take n).take m)); rw[List.take_take,Nat.min_eq_left hm]; exact h2
     ·show aI l' w ((cs.take n).drop m); rw[List.drop_take]; exact k1
    ·cases h
   ·cases h
theorem C4:∀{fs:List Fd} {off n:Nat} {l:List Fd} {w:World} {cs:List Value},xh fs off n=some l->aI fs w cs->aI l w ((cs.drop off).take n)/\n+off<=cs.length+(if n=0 then off else 0):=by
 intro fs
 induction fs with
 |nil=>
  intro off n l w cs h hc
  have hn:n=0:=by
   unfold xh qG at h
   split at h
   ·rename_i hb; exact Nat.eq_of_beq_eq_true hb
   ·cases h
  subst hn
  have:cs=[]:=hc
  subst this
  have h:qG [] 0=some l:=h
  cases h
  simp[aI]
 |cons f fs ih=>
  intro off n l w cs h hc
  obtain⟨ag,m,p⟩:=f
  unfold xh at h
  split at h
  ·rename_i hb; have hb:=Nat.eq_of_beq_eq_true hb; subst hb
   obtain⟨k1,k2⟩:=G6 h hc
   exact⟨by rw[List.drop_zero]; exact k1,by omega⟩
  ·split at h
   ·rename_i hm
    have hm:=Nat.le_of_ble_eq_true hm
    obtain⟨h1,h2,h3⟩:=hc
    obtain⟨k1,k2⟩:=ih h h3
    rw[List.drop_drop]at k1
    have e:m+Nat.sub off m=off:=by show m+(off-m)=off; omega
    rw[show(({ agg:=ag,n:=m,p:=p }:Fd).n+Nat.sub off m)=off from e]at k1
    refine⟨k1,?_⟩
    rw[List.length_drop]at k2
    have h1:m<=cs.length:=h1
    have k2:n+(off-m)<=cs.length-m+(if n=0 then off-m else 0):=k2
    split at k2<;>rename_i hn
    ·rw[if_pos hn]; omega
    ·rw[if_neg hn]; omega
   ·cases h
variable {ag:Bool} {q:Pred}
theorem CM {l:List Fd} {w:World} {ds:List Value} (h:Gl ag (some l)=some q) (hc:aI l w ds):q w (au ag ds):=by
 unfold Gl at h
 split at h
 ·rename_i _ e
  cases h
  cases e
  obtain⟨h1,h2,h3⟩:=hc
  have h3:ds.drop _=[]:=h3
  have:ds.take _=ds:=List.take_of_length_le (List.drop_eq_nil_iff.1 h3)
  rw[this]at h2
  exact h2
 ·rename_i _ e
  cases h
  cases e
  exact⟨ds,rfl,hc⟩
 ·rename_i _ e
  cases h
  cases e
  obtain⟨h1,h2,h3⟩:=hc
  have h3:ds.drop _=[]:=h3
  have:ds.take _=ds:=List.take_of_length_le (List.drop_eq_nil_iff.1 h3)
  rw[this]at h2
  exact h2
 ·cases h
variable {fs:List Fd} {off n N:Nat}
theorem ou (h:Gl ag (xh fs off n)=some q):∀w cs,cs.length=N->pS fs w (au true cs)->q w (au ag ((cs.drop off).take n)):=by
 rintro w cs _ ⟨ds,e,hd⟩
 have:=cg (show au true cs=au true ds from e)
 subst this
 cases hs:xh fs off n with
 |none=>rw[hs]at h; cases ag<;>cases h
 |some l=>rw[hs]at h; exact CM h (C4 hs hd).1
theorem Fg:∀{fs:List Fd} {n:Nat} {l:List Fd} {w:World} {cs:List Value},uO fs n=some l->aI fs w cs->aI l w (cs.drop n):=by
 intro fs
 induction fs with
 |nil=>
  intro n l w cs h hc
  unfold uO at h
  split at h
  ·cases h; have:cs=[]:=hc; subst this; simp[aI]
  ·cases h
 |cons f fs ih=>
  intro n l w cs h hc
  obtain⟨ag,m,p⟩:=f
  unfold uO at h
  split at h
  ·rename_i hb; have hb:=Nat.eq_of_beq_eq_true hb; subst hb; cases h; exact hc
  ·split at h
   ·rename_i hm
    have hm:=Nat.le_of_ble_eq_true hm
    have:=ih h hc.2.2
    rw[List.drop_drop]at this
    rwa [show(({ agg:=ag,n:=m,p:=p }:Fd).n+Nat.sub n m)=n from(show m+(n-m)=n by omega)]at this
   ·cases h
theorem wg:∀{gs r l:List Fd} {w:World} {ds es:List Value},xP gs (some r)=some l->aI gs w ds->aI r w es->aI l w (ds++es):=by
 intro gs
 induction gs with
 |nil=>intro r l w ds es h hd he; cases h; have:ds=[]:=hd; subst this; exact he
 |cons g gs ih=>
  intro r l w ds es h hd he
  unfold xP at h
  split at h
  ·rename_i l' hl
   cases h
   obtain⟨h1,h2,h3⟩:=hd
   refine⟨by rw[List.length_append]; omega,?_,?_⟩
   ·rw[List.take_append_of_le_length h1]; exact h2
   ·rw[List.drop_append_of_le_length h1]; exact ih hl h3 he
  ·cases h
theorem Df:∀{gs:List Fd},xP gs none=none:=by
 intro gs
 induction gs with
 |nil=>rfl
 |cons g gs ih=>unfold xP; rw[ih]
theorem zC:∀{fs gs hs:List Fd} {off n:Nat} {w:World} {cs ds:List Value},vF gs n fs off=some hs->aI fs w cs->aI gs w ds->ds.length=n->aI hs w (cs.take off++ds++cs.drop (off+n)):=by
 intro fs
 induction fs with
 |nil=>
  intro gs hs off n w cs ds h hc hd hl
  unfold vF at h
  split at h
  ·rename_i hb; have hb:=Nat.eq_of_beq_eq_true hb; subst hb
   have:cs=[]:=hc
   subst this
   have:=wg h hd (show aI [] w []from rfl)
   simpa using this
  ·cases h
 |cons f fs ih=>
  intro gs hs off n w cs ds h hc hd hl
  obtain⟨ag,m,p⟩:=f
  unfold vF at h
  split at h
  ·rename_i hb; have hb:=Nat.eq_of_beq_eq_true hb; subst hb
   cases hr:uO (⟨ag,m,p⟩::fs) n with
   |none=>rw[hr,Df]at h; cases h
   |some r=>
    rw[hr]at h
    have:=wg h hd (Fg hr hc)
    simpa using this
  ·split at h
   ·rename_i hm
    have hm:=Nat.le_of_ble_eq_true hm
    split at h
    ·rename_i l hl'
     cases h
     obtain⟨h1,h2,h3⟩:=hc
     have h1:m<=cs.length:=h1
     have h2:p w (au ag (cs.take m)):=h2
     have:=ih hl' h3 hd hl
     have e:m+Nat.sub off m=off:=by show m+(off-m)=off; omega
     have hlen:m<=(cs.take off).length:=by rw[List.length_take]; omega
     have e2:(cs.take off++ds++cs.drop (off+n))=cs.take off++(ds++cs.drop (off+n)):=by rw[List.append_assoc]
     refine⟨?_,?_,?_⟩
     ·show m<=_; rw[e2,List.length_append]; omega
     ·show p w (au ag (List.take m _)); rw[e2,List.take_append_of_le_length hlen,List.take_take,Nat.min_eq_left hm]; exact h2
     ·show aI l w (List.drop m _)
      rw[e2,List.drop_append_of_le_length hlen,List.drop_take]
      have this:aI l w ((cs.drop m).take (off-m)++ds++(cs.drop m).drop ((off-m)+n)):=this
      rw[List.drop_drop,show m+(off-m+n)=off+n by omega,List.append_assoc]at this
      exact this
    ·cases h
   ·cases h
variable {hs:List Fd}
theorem Em (h:vF [⟨ag,n,q⟩] n fs off=some hs):
  ∀w cs ds,cs.length=N->ds.length=n->pS fs w (au true cs)->q w (au ag ds)->pS hs w (au true (cs.take off++ds++cs.drop (off+n))):=by
 rintro w cs ds _ hl ⟨es,e,hc⟩ hq
 have:=cg (show au true cs=au true es from e)
 subst this
 exact⟨_,rfl,zC h hc (show aI [⟨ag,n,q⟩] w ds from⟨by show n<=_; omega,by show q w (au ag (ds.take n)); rw[List.take_of_length_le (by omega)]; exact hq,List.drop_eq_nil_iff.2 (by show ds.length<=n; omega)⟩) hl⟩
theorem En {gs:List Fd} (h:vF gs n fs off=some hs):
  ∀w cs ds,cs.length=N->ds.length=n->pS fs w (au true cs)->pS gs w (au true ds)->pS hs w (au true (cs.take off++ds++cs.drop (off+n))):=by
 rintro w cs ds _ hl ⟨es,e,hc⟩ ⟨es',e',hd⟩
 have:=cg (show au true cs=au true es from e)
 subst this
 have:=cg (show au true ds=au true es' from e')
 subst this
 exact⟨_,rfl,zC h hc hd hl⟩
def pQ (F:Rat->Pred) (j:Nat) (x:Rat):Pred:=λw v=>fB j x/\F x w v
abbrev pR (j:Nat) (x:Rat):Pred:=pQ bu j x
abbrev pN (j:Nat) (x:Rat):Pred:=pQ MR j x
variable {F:Rat->Pred} {j:Nat} {x:Rat}
theorem Gy (h:fB j x):∀w v,F x w v->pQ F j x w v:=λ_ _ k=>⟨h,k⟩
variable {k:Nat}
theorem zj (h:j<=k):∀w v,pQ F j x w v->pQ F k x w v:=λ_ _ q=>⟨q.1.mono h,q.2⟩
theorem P4 {y:Rat} (e:x=y) (h:j<=k):∀w v,pQ F j x w v->pQ F k y w v:=e▸zj h
theorem nk:aA (pR j x):=λM w v hM h=>λw' he=>⟨h.1,dc x M w v hM h.2 w' he⟩
theorem nj:aA (pN j x):=λM w v hM h=>λw' he=>⟨h.1,lA x M w v hM h.2 w' he⟩
theorem nQ:Fits 3 true (pR j x):=λw v h=>kU x w v h.2
theorem wv:Fits 3 true (pN j x):=λw v h=>yo x w v h.2
inductive Zl
 |r|f|i|b|n|s
def Zl.fd:Zl->Fd
 |.r=>⟨true,3,pR 1 0⟩
 |.f=>⟨true,3,iC⟩
 |.i=>⟨false,1,pI 0⟩
 |.b=>⟨false,1,pB false⟩
 |.n=>⟨false,1,bp (.slice none 0 0)⟩
 |.s=>⟨false,1,bp (.string ⟨#[]⟩)⟩
def Zl.cs:Zl->List Value
 |.r|.f=>[.bool false,.slice none 0 0,.slice none 0 0]
 |.i=>[.int .i64 0]
 |.b=>[.bool false]
 |.n=>[.slice none 0 0]
 |.s=>[.string ⟨#[]⟩]
theorem Vu:fB 1 (0:Rat):=⟨by show(0:Rat).num.natAbs<2^1; decide,by show(0:Rat).den<2^1; decide⟩
theorem Lk (w:World):∀l:List Zl,aI (l.map Zl.fd) w (l.flatMap Zl.cs):=by
 intro l
 induction l with
 |nil=>rfl
 |cons z l ih=>
  have e:(Zl.fd z).n=(Zl.cs z).length:=by cases z<;>rfl
  have hp:(Zl.fd z).p w (au (Zl.fd z).agg (Zl.cs z)):=by
   cases z
   ·exact⟨Vu,mW w⟩
   ·trivial
   all_goals rfl
  show(Zl.fd z).n<=_/\_/\_
  rw[List.flatMap_cons,List.length_append,List.take_append_of_le_length (by omega),List.take_of_length_le (by omega),List.drop_append_of_le_length (by omega),List.drop_of_length_le (by omega)]
  exact⟨by omega,hp,ih⟩
theorem BS:∀l:List Zl,∀u∈l.flatMap Zl.cs,gv u:=by
 intro l u hu
 obtain⟨z,_,hz⟩:=List.mem_flatMap.1 hu
 cases z<;>simp[Zl.cs]at hz<;>(try rcases hz with rfl|rfl)<;>(try subst hz)<;>intro n<;>simp
theorem BR (l:List Zl) (w:World):pS (l.map Zl.fd) w (au true (l.flatMap Zl.cs)):=⟨_,rfl,Lk w l⟩
def ym (F:Rat->Pred) (j:Nat) (x:Rat):Fd:=⟨true,3,pQ F j x⟩
def pV (F:Rat->Pred) (j:Nat) (l:List Rat):Pred:=pS (l.map (ym F j))
section
variable {F:Rat->Pred} {j k:Nat} {l:List Rat}
theorem Le (h:j<=k):∀{l:List Rat} {w:World} {cs:List Value},aI (l.map (ym F j)) w cs->aI (l.map (ym F k)) w cs
 |[],_,_,h=>h
 |_::_,_,_,⟨h1,h2,h3⟩=>⟨h1,zj h _ _ h2,Le h h3⟩
theorem CR (h:j<=k):∀w v,pV F j l w v->pV F k l w v:=λ_ _ ⟨cs,e,hc⟩=>⟨cs,e,Le h hc⟩
theorem P6 {l':List Rat} (e:l=l') (h:j<=k):∀w v,pV F j l w v->pV F k l' w v:=e▸CR h
theorem Gw:∀{l:List Rat} {w:World} {cs:List Value},aI (l.map (ym F j)) w cs->cs.length=3*l.length
 |[],_,_,h=>by rw[show _=[]from h]; rfl
 |_::l,_,cs,⟨h1,_,h3⟩=>by
  have:=Gw h3
  have h1:3<=cs.length:=h1
  have:cs.length-3=3*l.length:=by rw[<-List.length_drop]; exact this
  rw[List.length_cons]; omega
theorem CP:∀{l:List Rat} {w:World} {cs:List Value} (q:Nat),aI (l.map (ym F j)) w cs->aI ((l.drop q).map (ym F j)) w (cs.drop (q*3))
 |l,_,_,0,h=>by rw[Nat.zero_mul,List.drop_zero,List.drop_zero]; exact h
 |[],_,_,_+1,h=>by rw[show _=[]from h]; rfl
 |_::_,_,_,q+1,⟨_,_,h3⟩=>by
  have:=CP q h3
  rw[List.drop_drop,show(ym F j _).n+q*3=(q+1)*3 from(show 3+q*3=(q+1)*3 by omega)]at this
  exact this
theorem CQ:∀{l:List Rat} {w:World} {cs:List Value} (q:Nat),aI (l.map (ym F j)) w cs->aI ((l.take q).map (ym F j)) w (cs.take (q*3))
 |l,_,_,0,_=>by rw[Nat.zero_mul,List.take_zero,List.take_zero]; rfl
 |[],_,_,_+1,h=>by rw[show _=[]from h]; rfl
 |_::_,w,cs,q+1,⟨h1,h2,h3⟩=>by
  have h1:3<=cs.length:=h1
  refine⟨?_,?_,?_⟩
  ·show 3<=(cs.take ((q+1)*3)).length; rw[List.length_take]; omega
  ·show pQ F j _ w (au true ((cs.take ((q+1)*3)).take 3)); rw[List.take_take,Nat.min_eq_left (by omega)]; exact h2
  ·show aI _ w ((cs.take ((q+1)*3)).drop 3); rw[List.drop_take,show(q+1)*3-3=q*3 by omega]; exact CQ q h3
theorem MQ {x:Rat} {w:World} {ds:List Value} (hl:ds.length=3):aI ([x].map (ym F j)) w ds↔pQ F j x w (au true ds):=by
 refine⟨λ⟨_,h2,_⟩=>?_,λh=>⟨by show 3<=_; omega,?_,List.drop_eq_nil_iff.2 (by show _<=3; omega)⟩⟩
 ·have h2:pQ F j x w (au true (ds.take 3)):=h2
  rwa [List.take_of_length_le (by omega)]at h2
 ·show pQ F j x w (au true (ds.take 3))
  rwa [List.take_of_length_le (by omega)]
theorem sD {l:List Rat} {q:Nat} (h:q<l.length):(l.drop q).take 1=[l.getD q 0]:=by
 rw[List.drop_eq_getElem_cons h,List.take_succ_cons,List.take_zero,List.getD_eq_getElem?_getD,List.getElem?_eq_getElem h]; rfl
variable {off:Nat}
theorem MU (q m:Nat) (ho:off=q*3) {N:Nat}:∀w cs,cs.length=N->pV F j l w (au true cs)->pV F j ((l.drop q).take m) w (au true ((cs.drop off).take (m*3))):=by
 rintro w cs _ ⟨ds,e,h⟩
 have:=cg (show au true cs=au true ds from e)
 subst this ho
 exact⟨_,rfl,CQ m (CP q h)⟩
theorem MT (q:Nat) (ho:off=q*3) (hq:q<l.length) {N:Nat}:∀w cs,cs.length=N->pV F j l w (au true cs)->pQ F j (l.getD q 0) w (au true ((cs.drop off).take 3)):=by
 intro w cs hN h
 obtain⟨ds,e,h⟩:=MU q 1 ho w cs hN h
 rw[sD hq]at h
 have e:=cg (show au true _=au true ds from e)
 have hl:=Gw h
 rw[Nat.one_mul]at e
 rw[e]
 exact(MQ hl).1 h
theorem sX (hF:∀x,aA (pQ F j x)):∀{l:List Rat} {M:Nat->Nat->Prop} {w:World} {cs:List Value},cR M w->aI (l.map (ym F j)) w cs->aM M (λw=>aI (l.map (ym F j)) w cs) w
 |[],_,_,_,_,h=>λ_ _=>h
 |x::_,M,w,_,hM,⟨h1,h2,h3⟩=>λw' he=>⟨h1,hF x M w _ hM h2 w' he,sX hF hM h3 w' he⟩
theorem sY (hF:∀x,aA (pQ F j x)):aA (pV F j l):=by
 rintro M w v hM ⟨cs,rfl,h⟩ w' he
 exact⟨cs,rfl,sX hF hM h w' he⟩
theorem rQ (hF:∀x,Fits 3 true (pQ F j x)):∀{l:List Rat},qT (l.map (ym F j))
 |[]=>trivial
 |x::_=>⟨hF x,rQ hF⟩
theorem CX:∀{l:List Rat},kC (l.map (ym F j))=l.length*3
 |[]=>rfl
 |_::l=>by show 3+kC (l.map (ym F j))=(l.length+1)*3; rw[CX]; omega
theorem rq (hF:∀x,Fits 3 true (pQ F j x)) {n:Nat} (hn:n=l.length*3):Fits n true (pV F j l):=pL (rQ hF) (by rw[hn]; exact CX)
inductive po (F:Rat->Pred) (j:Nat):List Fd->List Rat->Prop
 |z:po F j [] []
 |c {i:Nat} {x:Rat} {fs:List Fd} {l:List Rat} (h:i<=j):po F j fs l->po F j (⟨true,3,pQ F i x⟩::fs) (x::l)
variable {fs:List Fd}
theorem po.ok (h:po F j fs l):∀{w:World} {cs:List Value},aI fs w cs->aI (l.map (ym F j)) w cs:=by
 induction h with
 |z=>exactλh=>h
 |c hi _ ih=>exact λ⟨h1,h2,h3⟩=>⟨h1,zj hi _ _ h2,ih h3⟩
theorem po.pV (h:po F j fs l):∀w v,pS fs w v->Wx.pV F j l w v:=λ_ _ ⟨cs,e,hc⟩=>⟨cs,e,h.ok hc⟩
end
end Wx
