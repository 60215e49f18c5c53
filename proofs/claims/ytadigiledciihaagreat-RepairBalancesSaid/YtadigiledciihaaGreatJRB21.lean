import Derived.Test.YtadigiledciihaaGreatCRBSemAppend
import Derived.Test.YtadigiledciihaaGreatJRB14
namespace Wx
open Go Go.RowKit
structure It where
 p:Pred
 nl:au p
structure Bk where
 b:Nat
 sz:Nat
 agg:Bool
 items:List It
def Bk.put (e:Bk) (b idx:Nat) (it:It):Bk:=if e.b=b then { e with items:=e.items.set idx it }else e
def yJ (H:List Bk) (b idx:Nat) (it:It):List Bk:=H.map λe=>e.put b idx it
section
variable {P:Program} {ops:Array Oper} {ms:List Nat} {c:dg} {V:List Vr} {A:List Al} {G:List aX} {i:Nat} {L:Nat->Bool} {β:Nat->Nat->Prop} {a:Act} {w:World} {o:Oper}{d:Nat} {x y z:Operand} {ty:TypeId} {pos:String} {aI:Array Edge}
theorem AZ (hI:aY c V A G L β a w) (hd:lZ ms i L) {v:Vr} (hv:v∈V) (ho:bE ms i v=true) (cg:v.kd=.obj):xL (own c V L β) c L a w v (β v.id):=(aJ cg).1 (hI.var v hv (hd.live ho))
theorem rR (hd:lZ ms i L) {st:List (Nat×Rel)} {p:Rel} (h:(st.all λq=>(q.1==i||(ms.getD i 0).testBit q.1)||(ms.getD q.1 0).testBit i)=true):cont L p st=cont (λj=>(ms.getD i 0).testBit j) p st:=by
 rw[List.all_eq_true]at h
 refine ig λq hq=>?_
 have:=h q hq
 simp only[Bool.or_eq_true,beq_iff_eq]at this
 rcases this with(h5|h5)|h5
 ·rw[h5,hd.no,hd.irrefl]
 ·rw[hd.before _ h5,h5]
 ·have h6:=hd.behind _ h5
  rw[h6]
  cases h7:(ms.getD i 0).testBit q.1 with
  |false=>rfl
  |true=>rw[hd.before _ h7]at h6; cases h6
variable {T E:TypeId} {n cap:Nat}
theorem Ba {sz b o':Nat} {m:Int} (h:Has ms G i x (bR (.slice (some ⟨b,o',none⟩) n cap))) (hy:Has ms G i y (pI m)) (ht:mU P T E sz) (h0:0<=m) (h1:m<n) (hA:(A.all λq=>q.tag != some i)=true) (hp:Post G i (bR (.pointer (some ⟨b,o'+m.toNat*sz,none⟩)))):
  OpOk P ops ms c V A G i ⟨some d,.indexAddr T x y,ty,pos,aI,none⟩:=
 cm rfl rfl rfl (.inr hA) hp λL β a w hI hd=>by
  have hx:a.eval x=.slice (some ⟨b,o',none⟩) n cap:=(h.spec hI hd).out
  have hi:a.eval y=.int .i64 m:=(hy.spec hI hd).out
  refine⟨_,w,?_,Below.refl _ _,λ_ _=>rfl⟩
  show(do pure (Next.value (<-Instr.indexAt T (a.eval x) (a.eval y)))).run P w=_
  rw[hx,hi,Sem.run_bind,lR ht h0 h1]
  rfl
theorem Gl {A':Option Addr} (h:Has ms G i x (bR (.slice A' n cap))) (ht:P.underlying T=some (.slice E)) (hp:Post G i (pI (n:Int))):
  OpOk P ops ms c V A G i ⟨some d,.call ⟨.builtin .len,#[x],#[T]⟩,ty,pos,aI,none⟩:=
 iR rfl rfl rfl rfl h hp λρ w h=>⟨.int .i64 n,by
  have h:ρ x=.slice A' n cap:=h
  have hr:(Builtin.len_ #[T] ty #[ρ x]).run P w=.ok (.int .i64 n) w:=by
   rw[h]
   unfold Builtin.len_
   simp[run_underlying ht,goInt]
  show(do let d <-resolve ρ ⟨.builtin .len,#[x],#[T]⟩ ty; invoke d.target d.args).run P w=_
  simp only[resolve,invoke,pure_bind,builtin]
  rw[show(#[x]:Array Operand).map ρ=#[ρ x] by simp,Sem.run_bind,hr]
  rfl,λ_ _=>rfl⟩
end
end Wx

namespace Wx
open Go Go.RowKit
theorem mZ:lZ [0] 0 none_:=⟨rfl,λj h=>by simp at h,λ_ _=>rfl⟩
section
variable {P:Program} {Q:Exit->Act->World->Prop} {c:dg} {V:List Vr} {A:List Al} {G:List aX} {a:Act} {w:World} {o:Oper}{d:Nat} {x y z:Operand} {ty:TypeId} {pos:String} {aI:Array Edge}{K:Act->World->Prop}
theorem Does.mono {K':Act->World->Prop} (h:Does P o a w K) (hK:∀a w,K a w->K' a w):Does P o a w K':=by
 unfold Does at *
 generalize (execOp a.eval o).run P w=r at *
 match r,h with
 |.ok (.value v) w',h=>exact hK _ _ h
 |.ok .skip w',h=>exact hK _ _ h
 |.ok (.enter f args) w',h=>exact h.mono λe w'' ⟨v,h1,h2⟩=>⟨v,h1,hK _ _ h2⟩
theorem cO.of {ops:Array Oper} (hg:o.guard=none) (h:Does P o a w K):cO P ops o a w K:=by
 unfold cO
 rw[if_pos (by simp[Region.wanted,hg])]
 exact h
end
end Wx

namespace Wx
open Go Go.RowKit
theorem my {M:Nat->Nat->Prop} {B:Nat->Prop} {w:World} (h:dR M w):dR (minus M B) w:=λk o hk=>h k o hk.1
section
variable {P:Program} {Q:Exit->Act->World->Prop} {c:dg} {V:List Vr} {A:List Al} {G:List aX} {a:Act} {w:World} {o:Oper}{d:Nat} {x y z u:Operand} {ty:TypeId} {pos:String} {aI:Array Edge}{fn:Func}
end
end Wx

namespace Wx
open Go Go.RowKit
section
variable {P:Program} {Q:Exit->Act->World->Prop} {c:dg} {V:List Vr} {A:List Al} {G:List aX} {a:Act} {w:World}
end
def Ud (H:List Bk) (b:Nat) (X:List It):List Bk:=H.map λe=>if e.b=b then { e with items:=X }else e
end Wx

namespace Wx
open Go Go.RowKit
theorem sr (A:Option Addr) (n cap:Nat):Fits 1 false (bR (.slice A n cap)):=nT (fg _ _ _) rfl rfl
section
variable {L1 L2:List Rat} {s1 s2 k:Nat} {f:Rat}
end
end Wx

namespace Wx
open Go Go.RowKit
def qD:List Fd->Nat->Option (List Fd)
 |[],n=>match Nat.beq n 0 with
  |true=>some []
  |false=>none
 |⟨ag,m,p⟩::fs,n=>match Nat.beq n 0 with
  |true=>some []
  |false=>match Nat.ble m n with
   |true=>match qD fs (Nat.sub n m)with
    |some l=>some (⟨ag,m,p⟩::l)
    |none=>none
   |false=>none
def zI:List Fd->Nat->Nat->Option (List Fd)
 |[],_,n=>qD [] n
 |⟨ag,m,p⟩::fs,off,n=>match Nat.beq off 0 with
  |true=>qD (⟨ag,m,p⟩::fs) n
  |false=>match Nat.ble m off with
   |true=>zI fs (Nat.sub off m) n
   |false=>none
def Jk:Bool->Option (List Fd)->Option Pred
 |true,some [⟨true,_,p⟩]=>some p
 |true,some l=>some (pS l)
 |false,some [⟨false,_,p⟩]=>some p
 |_,_=>none
def uI:List Fd->Nat->Option (List Fd)
 |[],n=>match Nat.beq n 0 with
  |true=>some []
  |false=>none
 |⟨ag,m,p⟩::fs,n=>match Nat.beq n 0 with
  |true=>some (⟨ag,m,p⟩::fs)
  |false=>match Nat.ble m n with
   |true=>uI fs (Nat.sub n m)
   |false=>none
def xW:List Fd->Option (List Fd)->Option (List Fd)
 |[],r=>r
 |g::gs,r=>match xW gs r with
  |some l=>some (g::l)
  |none=>none
def vH (gs:List Fd) (n:Nat):List Fd->Nat->Option (List Fd)
 |[],_=>match Nat.beq n 0 with
  |true=>xW gs (some [])
  |false=>none
 |⟨ag,m,p⟩::fs,off=>match Nat.beq off 0 with
  |true=>xW gs (uI (⟨ag,m,p⟩::fs) n)
  |false=>match Nat.ble m off with
   |true=>match vH gs n fs (Nat.sub off m)with
    |some l=>some (⟨ag,m,p⟩::l)
    |none=>none
   |false=>none
theorem G8:∀{fs:List Fd} {n:Nat} {l:List Fd} {w:World} {cs:List Value},qD fs n=some l->az fs w cs->az l w (cs.take n)/\n<=cs.length:=by
 intro fs
 induction fs with
 |nil=>
  intro n l w cs h hc
  unfold qD at h
  split at h
  ·rename_i hb; have hb:=Nat.eq_of_beq_eq_true hb; subst hb; cases h; exact⟨rfl,Nat.zero_le _⟩
  ·cases h
 |cons f fs ih=>
  intro n l w cs h hc
  obtain⟨ag,m,p⟩:=f
  unfold qD at h
  split at h
  ·rename_i hb; have hb:=Nat.eq_of_beq_eq_true hb; subst hb; cases h; exact⟨rfl,Nat.zero_le _⟩
  ·split at h
   ·rename_i hm
    have hm:=Nat.le_of_ble_eq_true hm
    split at h
    ·rename_i l' hl
     cases h
     obtain⟨h1,h2,h3⟩:=hc
     obtain⟨k1,k2⟩:=ih hl h3
     simp only[List.length_drop]at k2 h1
     have k2:n-m<=cs.length-m:=k2
     refine⟨⟨?_,?_,?_⟩,by omega⟩
     ·show m<=(cs.take n).length; rw[List.length_take]; omega
     ·show p w (ak ag ((cs.take n).take m)); rw[List.take_take,Nat.min_eq_left hm]; exact h2
     ·show az l' w ((cs.take n).drop m); rw[List.drop_take]; exact k1
    ·cases h
   ·cases h
theorem CM:∀{fs:List Fd} {off n:Nat} {l:List Fd} {w:World} {cs:List Value},zI fs off n=some l->az fs w cs->az l w ((cs.drop off).take n)/\n+off<=cs.length+(if n=0 then off else 0):=by
 intro fs
 induction fs with
 |nil=>
  intro off n l w cs h hc
  have hn:n=0:=by
   unfold zI qD at h
   split at h
   ·rename_i hb; exact Nat.eq_of_beq_eq_true hb
   ·cases h
  subst hn
  have:cs=[]:=hc
  subst this
  have h:qD [] 0=some l:=h
  cases h
  simp[az]
 |cons f fs ih=>
  intro off n l w cs h hc
  obtain⟨ag,m,p⟩:=f
  unfold zI at h
  split at h
  ·rename_i hb; have hb:=Nat.eq_of_beq_eq_true hb; subst hb
   obtain⟨k1,k2⟩:=G8 h hc
   exact⟨by rw[List.drop_zero]; exact k1,by omega⟩
  ·split at h
   ·rename_i hm
    have hm:=Nat.le_of_ble_eq_true hm
    obtain⟨h1,h2,h3⟩:=hc
    obtain⟨k1,k2⟩:=ih h h3
    rw[List.drop_drop]at k1
    have e:m+Nat.sub off m=off:=by show m+(off-m)=off; omega
    rw[show(({ agg:=ag,n:=m,p:=p }:Fd).n+Nat.sub off m)=off from e]at k1
    refine⟨k1,?_⟩
    rw[List.length_drop]at k2
    have h1:m<=cs.length:=h1
    have k2:n+(off-m)<=cs.length-m+(if n=0 then off-m else 0):=k2
    split at k2<;>rename_i hn
    ·rw[if_pos hn]; omega
    ·rw[if_neg hn]; omega
   ·cases h
variable {ag:Bool} {q:Pred}
theorem Cz {l:List Fd} {w:World} {ds:List Value} (h:Jk ag (some l)=some q) (hc:az l w ds):q w (ak ag ds):=by
 unfold Jk at h
 split at h
 ·rename_i _ e
  cases h
  cases e
  obtain⟨h1,h2,h3⟩:=hc
  have h3:ds.drop _=[]:=h3
  have:ds.take _=ds:=List.take_of_length_le (List.drop_eq_nil_iff.1 h3)
  rw[this]at h2
  exact h2
 ·rename_i _ e
  cases h
  cases e
  exact⟨ds,rfl,hc⟩
 ·rename_i _ e
  cases h
  cases e
  obtain⟨h1,h2,h3⟩:=hc
  have h3:ds.drop _=[]:=h3
  have:ds.take _=ds:=List.take_of_length_le (List.drop_eq_nil_iff.1 h3)
  rw[this]at h2
  exact h2
 ·cases h
variable {fs:List Fd} {off n N:Nat}
theorem yV (h:Jk ag (zI fs off n)=some q):∀w cs,cs.length=N->pS fs w (ak true cs)->q w (ak ag ((cs.drop off).take n)):=by
 rintro w cs _ ⟨ds,e,hd⟩
 have:=bS (show ak true cs=ak true ds from e)
 subst this
 cases hs:zI fs off n with
 |none=>rw[hs]at h; cases ag<;>cases h
 |some l=>rw[hs]at h; exact Cz h (CM hs hd).1
theorem Fb:∀{fs:List Fd} {n:Nat} {l:List Fd} {w:World} {cs:List Value},uI fs n=some l->az fs w cs->az l w (cs.drop n):=by
 intro fs
 induction fs with
 |nil=>
  intro n l w cs h hc
  unfold uI at h
  split at h
  ·cases h; have:cs=[]:=hc; subst this; simp[az]
  ·cases h
 |cons f fs ih=>
  intro n l w cs h hc
  obtain⟨ag,m,p⟩:=f
  unfold uI at h
  split at h
  ·rename_i hb; have hb:=Nat.eq_of_beq_eq_true hb; subst hb; cases h; exact hc
  ·split at h
   ·rename_i hm
    have hm:=Nat.le_of_ble_eq_true hm
    have:=ih h hc.2.2
    rw[List.drop_drop]at this
    rwa [show(({ agg:=ag,n:=m,p:=p }:Fd).n+Nat.sub n m)=n from(show m+(n-m)=n by omega)]at this
   ·cases h
theorem wm:∀{gs r l:List Fd} {w:World} {ds es:List Value},xW gs (some r)=some l->az gs w ds->az r w es->az l w (ds++es):=by
 intro gs
 induction gs with
 |nil=>intro r l w ds es h hd he; cases h; have:ds=[]:=hd; subst this; exact he
 |cons g gs ih=>
  intro r l w ds es h hd he
  unfold xW at h
  split at h
  ·rename_i l' hl
   cases h
   obtain⟨h1,h2,h3⟩:=hd
   refine⟨by rw[List.length_append]; omega,?_,?_⟩
   ·rw[List.take_append_of_le_length h1]; exact h2
   ·rw[List.drop_append_of_le_length h1]; exact ih hl h3 he
  ·cases h
theorem C5:∀{gs:List Fd},xW gs none=none:=by
 intro gs
 induction gs with
 |nil=>rfl
 |cons g gs ih=>unfold xW; rw[ih]
theorem zA:∀{fs gs hs:List Fd} {off n:Nat} {w:World} {cs ds:List Value},vH gs n fs off=some hs->az fs w cs->az gs w ds->ds.length=n->az hs w (cs.take off++ds++cs.drop (off+n)):=by
 intro fs
 induction fs with
 |nil=>
  intro gs hs off n w cs ds h hc hd hl
  unfold vH at h
  split at h
  ·rename_i hb; have hb:=Nat.eq_of_beq_eq_true hb; subst hb
   have:cs=[]:=hc
   subst this
   have:=wm h hd (show az [] w []from rfl)
   simpa using this
  ·cases h
 |cons f fs ih=>
  intro gs hs off n w cs ds h hc hd hl
  obtain⟨ag,m,p⟩:=f
  unfold vH at h
  split at h
  ·rename_i hb; have hb:=Nat.eq_of_beq_eq_true hb; subst hb
   cases hr:uI (⟨ag,m,p⟩::fs) n with
   |none=>rw[hr,C5]at h; cases h
   |some r=>
    rw[hr]at h
    have:=wm h hd (Fb hr hc)
    simpa using this
  ·split at h
   ·rename_i hm
    have hm:=Nat.le_of_ble_eq_true hm
    split at h
    ·rename_i l hl'
     cases h
     obtain⟨h1,h2,h3⟩:=hc
     have h1:m<=cs.length:=h1
     have h2:p w (ak ag (cs.take m)):=h2
     have:=ih hl' h3 hd hl
     have e:m+Nat.sub off m=off:=by show m+(off-m)=off; omega
     have hlen:m<=(cs.take off).length:=by rw[List.length_take]; omega
     have e2:(cs.take off++ds++cs.drop (off+n))=cs.take off++(ds++cs.drop (off+n)):=by rw[List.append_assoc]
     refine⟨?_,?_,?_⟩
     ·show m<=_; rw[e2,List.length_append]; omega
     ·show p w (ak ag (List.take m _)); rw[e2,List.take_append_of_le_length hlen,List.take_take,Nat.min_eq_left hm]; exact h2
     ·show az l w (List.drop m _)
      rw[e2,List.drop_append_of_le_length hlen,List.drop_take]
      have this:az l w ((cs.drop m).take (off-m)++ds++(cs.drop m).drop ((off-m)+n)):=this
      rw[List.drop_drop,show m+(off-m+n)=off+n by omega,List.append_assoc]at this
      exact this
    ·cases h
   ·cases h
variable {hs:List Fd}
theorem Ek (h:vH [⟨ag,n,q⟩] n fs off=some hs):
  ∀w cs ds,cs.length=N->ds.length=n->pS fs w (ak true cs)->q w (ak ag ds)->pS hs w (ak true (cs.take off++ds++cs.drop (off+n))):=by
 rintro w cs ds _ hl ⟨es,e,hc⟩ hq
 have:=bS (show ak true cs=ak true es from e)
 subst this
 exact⟨_,rfl,zA h hc (show az [⟨ag,n,q⟩] w ds from⟨by show n<=_; omega,by show q w (ak ag (ds.take n)); rw[List.take_of_length_le (by omega)]; exact hq,List.drop_eq_nil_iff.2 (by show ds.length<=n; omega)⟩) hl⟩
theorem El {gs:List Fd} (h:vH gs n fs off=some hs):
  ∀w cs ds,cs.length=N->ds.length=n->pS fs w (ak true cs)->pS gs w (ak true ds)->pS hs w (ak true (cs.take off++ds++cs.drop (off+n))):=by
 rintro w cs ds _ hl ⟨es,e,hc⟩ ⟨es',e',hd⟩
 have:=bS (show ak true cs=ak true es from e)
 subst this
 have:=bS (show ak true ds=ak true es' from e')
 subst this
 exact⟨_,rfl,zA h hc hd hl⟩
def pQ (F:Rat->Pred) (j:Nat) (x:Rat):Pred:=λw v=>cN j x/\F x w v
abbrev pR (j:Nat) (x:Rat):Pred:=pQ bg j x
abbrev pN (j:Nat) (x:Rat):Pred:=pQ bW j x
variable {F:Rat->Pred} {j:Nat} {x:Rat}
theorem qA (h:cN j x):∀w v,F x w v->pQ F j x w v:=λ_ _ k=>⟨h,k⟩
variable {k:Nat}
theorem vw (h:j<=k):∀w v,pQ F j x w v->pQ F k x w v:=λ_ _ q=>⟨q.1.mono h,q.2⟩
theorem Py {y:Rat} (e:x=y) (h:j<=k):∀w v,pQ F j x w v->pQ F k y w v:=e▸vw h
theorem ny:au (pR j x):=λM w v hM h=>λw' he=>⟨h.1,dz x M w v hM h.2 w' he⟩
theorem nx:au (pN j x):=λM w v hM h=>λw' he=>⟨h.1,dA x M w v hM h.2 w' he⟩
theorem eO:Fits 3 true (pR j x):=λw v h=>lp x w v h.2
theorem nU:Fits 3 true (pN j x):=λw v h=>lq x w v h.2
inductive Zl
 |r|f|i|b|n|s
def Zl.fd:Zl->Fd
 |.r=>⟨true,3,pR 1 0⟩
 |.f=>⟨true,3,dZ⟩
 |.i=>⟨false,1,pI 0⟩
 |.b=>⟨false,1,pB false⟩
 |.n=>⟨false,1,bR (.slice none 0 0)⟩
 |.s=>⟨false,1,bR (.string ⟨#[]⟩)⟩
def Zl.cs:Zl->List Value
 |.r|.f=>[.bool false,.slice none 0 0,.slice none 0 0]
 |.i=>[.int .i64 0]
 |.b=>[.bool false]
 |.n=>[.slice none 0 0]
 |.s=>[.string ⟨#[]⟩]
theorem UY:cN 1 (0:Rat):=⟨by show(0:Rat).num.natAbs<2^1; decide,by show(0:Rat).den<2^1; decide⟩
theorem KZ (w:World):∀l:List Zl,az (l.map Zl.fd) w (l.flatMap Zl.cs):=by
 intro l
 induction l with
 |nil=>rfl
 |cons z l ih=>
  have e:(Zl.fd z).n=(Zl.cs z).length:=by cases z<;>rfl
  have hp:(Zl.fd z).p w (ak (Zl.fd z).agg (Zl.cs z)):=by
   cases z
   ·exact⟨UY,nt w⟩
   ·trivial
   all_goals rfl
  show(Zl.fd z).n<=_/\_/\_
  rw[List.flatMap_cons,List.length_append,List.take_append_of_le_length (by omega),List.take_of_length_le (by omega),List.drop_append_of_le_length (by omega),List.drop_of_length_le (by omega)]
  exact⟨by omega,hp,ih⟩
theorem BI:∀l:List Zl,∀u∈l.flatMap Zl.cs,gR u:=by
 intro l u hu
 obtain⟨z,_,hz⟩:=List.mem_flatMap.1 hu
 cases z<;>simp[Zl.cs]at hz<;>(try rcases hz with rfl|rfl)<;>(try subst hz)<;>intro n<;>simp
theorem xC (l:List Zl) (w:World):pS (l.map Zl.fd) w (ak true (l.flatMap Zl.cs)):=⟨_,rfl,KZ w l⟩
def uc (F:Rat->Pred) (j:Nat) (x:Rat):Fd:=⟨true,3,pQ F j x⟩
def pV (F:Rat->Pred) (j:Nat) (l:List Rat):Pred:=pS (l.map (uc F j))
section
variable {F:Rat->Pred} {j k:Nat} {l:List Rat}
theorem KQ (h:j<=k):∀{l:List Rat} {w:World} {cs:List Value},az (l.map (uc F j)) w cs->az (l.map (uc F k)) w cs
 |[],_,_,h=>h
 |_::_,_,_,⟨h1,h2,h3⟩=>⟨h1,vw h _ _ h2,KQ h h3⟩
theorem vz (h:j<=k):∀w v,pV F j l w v->pV F k l w v:=λ_ _ ⟨cs,e,hc⟩=>⟨cs,e,KQ h hc⟩
theorem lP {l':List Rat} (e:l=l') (h:j<=k):∀w v,pV F j l w v->pV F k l' w v:=e▸vz h
theorem Gt:∀{l:List Rat} {w:World} {cs:List Value},az (l.map (uc F j)) w cs->cs.length=3*l.length
 |[],_,_,h=>by rw[show _=[]from h]; rfl
 |_::l,_,cs,⟨h1,_,h3⟩=>by
  have:=Gt h3
  have h1:3<=cs.length:=h1
  have:cs.length-3=3*l.length:=by rw[<-List.length_drop]; exact this
  rw[List.length_cons]; omega
theorem wW:∀{l:List Rat} {w:World} {cs:List Value} (q:Nat),az (l.map (uc F j)) w cs->az ((l.drop q).map (uc F j)) w (cs.drop (q*3))
 |l,_,_,0,h=>by rw[Nat.zero_mul,List.drop_zero,List.drop_zero]; exact h
 |[],_,_,_+1,h=>by rw[show _=[]from h]; rfl
 |_::_,_,_,q+1,⟨_,_,h3⟩=>by
  have:=wW q h3
  rw[List.drop_drop,show(uc F j _).n+q*3=(q+1)*3 from(show 3+q*3=(q+1)*3 by omega)]at this
  exact this
theorem wX:∀{l:List Rat} {w:World} {cs:List Value} (q:Nat),az (l.map (uc F j)) w cs->az ((l.take q).map (uc F j)) w (cs.take (q*3))
 |l,_,_,0,_=>by rw[Nat.zero_mul,List.take_zero,List.take_zero]; rfl
 |[],_,_,_+1,h=>by rw[show _=[]from h]; rfl
 |_::_,w,cs,q+1,⟨h1,h2,h3⟩=>by
  have h1:3<=cs.length:=h1
  refine⟨?_,?_,?_⟩
  ·show 3<=(cs.take ((q+1)*3)).length; rw[List.length_take]; omega
  ·show pQ F j _ w (ak true ((cs.take ((q+1)*3)).take 3)); rw[List.take_take,Nat.min_eq_left (by omega)]; exact h2
  ·show az _ w ((cs.take ((q+1)*3)).drop 3); rw[List.drop_take,show(q+1)*3-3=q*3 by omega]; exact wX q h3
theorem Bf:∀{l m:List Rat} {w:World} {cs ds:List Value},az (l.map (uc F j)) w cs->az (m.map (uc F j)) w ds->az ((l++m).map (uc F j)) w (cs++ds)
 |[],_,_,_,_,h,h'=>by rw[show _=[]from h]; exact h'
 |_::_,_,w,cs,ds,⟨h1,h2,h3⟩,h'=>by
  have h1:3<=cs.length:=h1
  refine⟨?_,?_,?_⟩
  ·show 3<=(cs++ds).length; rw[List.length_append]; omega
  ·show pQ F j _ w (ak true ((cs++ds).take 3)); rw[List.take_append_of_le_length h1]; exact h2
  ·show az _ w ((cs++ds).drop 3); rw[List.drop_append_of_le_length h1]; exact Bf h3 h'
variable {x:Rat}
theorem Gu {w:World} {ds:List Value} (hl:ds.length=3):az ([x].map (uc F j)) w ds↔pQ F j x w (ak true ds):=by
 refine⟨λ⟨_,h2,_⟩=>?_,λh=>⟨by show 3<=_; omega,?_,List.drop_eq_nil_iff.2 (by show _<=3; omega)⟩⟩
 ·have h2:pQ F j x w (ak true (ds.take 3)):=h2
  rwa [List.take_of_length_le (by omega)]at h2
 ·show pQ F j x w (ak true (ds.take 3))
  rwa [List.take_of_length_le (by omega)]
variable {q:Nat}
theorem sx {l:List Rat} (h:q<l.length):(l.drop q).take 1=[l.getD q 0]:=by
 rw[List.drop_eq_getElem_cons h,List.take_succ_cons,List.take_zero,List.getD_eq_getElem?_getD,List.getElem?_eq_getElem h]; rfl
variable {off:Nat}
theorem MQ (q m:Nat) (ho:off=q*3) {N:Nat}:∀w cs,cs.length=N->pV F j l w (ak true cs)->pV F j ((l.drop q).take m) w (ak true ((cs.drop off).take (m*3))):=by
 rintro w cs _ ⟨ds,e,h⟩
 have:=bS (show ak true cs=ak true ds from e)
 subst this ho
 exact⟨_,rfl,wX m (wW q h)⟩
theorem GB (q:Nat) (ho:off=q*3) (hq:q<l.length) {N:Nat}:∀w cs,cs.length=N->pV F j l w (ak true cs)->pQ F j (l.getD q 0) w (ak true ((cs.drop off).take 3)):=by
 intro w cs hN h
 obtain⟨ds,e,h⟩:=MQ q 1 ho w cs hN h
 rw[sx hq]at h
 have e:=bS (show ak true _=ak true ds from e)
 have hl:=Gt h
 rw[Nat.one_mul]at e
 rw[e]
 exact(Gu hl).1 h
theorem MO {n:Nat} {m:List Rat} (q:Nat) (ho:off=q*3) (hn:n=m.length*3) {N:Nat}:∀w cs ds,cs.length=N->ds.length=n->pV F j l w (ak true cs)->pV F j m w (ak true ds)->pV F j (l.take q++m++l.drop (q+m.length)) w (ak true (cs.take off++ds++cs.drop (off+n))):=by
 rintro w cs ds _ _ ⟨es,e,h⟩ ⟨es',e',h'⟩
 have:=bS (show ak true cs=ak true es from e)
 subst this
 have:=bS (show ak true ds=ak true es' from e')
 subst this ho hn
 refine⟨_,rfl,?_⟩
 rw[show q*3+m.length*3=(q+m.length)*3 by omega]
 exact Bf (Bf (wX q h) h') (wW _ h)
theorem JF {l:List Rat} (h:q<l.length):l.take q++[x]++l.drop (q+[x].length)=l.set q x:=by
 rw[List.set_eq_take_append_cons_drop,if_pos h,List.append_assoc]; rfl
theorem MP (q:Nat) (ho:off=q*3) (hq:q<l.length) {N:Nat}:∀w cs ds,cs.length=N->ds.length=3->pV F j l w (ak true cs)->pQ F j x w (ak true ds)->pV F j (l.set q x) w (ak true (cs.take off++ds++cs.drop (off+3))):=by
 intro w cs ds hN hl h hx
 have:=MO (m:=[x]) q ho rfl w cs ds hN hl h ⟨ds,rfl,(Gu hl).2 hx⟩
 rwa [JF hq]at this
theorem Jv (q:Nat) (ho:off=q*3) (hq:q<l.length) (hj:j<=k) {k':Nat} (hk:k'<=k) {N:Nat}:∀w cs ds,cs.length=N->ds.length=3->pV F j l w (ak true cs)->pQ F k' x w (ak true ds)->pV F k (l.set q x) w (ak true (cs.take off++ds++cs.drop (off+3))):=
 λw cs ds hN hl h hx=>MP q ho hq w cs ds hN hl (vz hj _ _ h) (vw hk _ _ hx)
theorem sU (hF:∀x,au (pQ F j x)):∀{l:List Rat} {M:Nat->Nat->Prop} {w:World} {cs:List Value},dR M w->az (l.map (uc F j)) w cs->aQ M (λw=>az (l.map (uc F j)) w cs) w
 |[],_,_,_,_,h=>λ_ _=>h
 |x::_,M,w,_,hM,⟨h1,h2,h3⟩=>λw' he=>⟨h1,hF x M w _ hM h2 w' he,sU hF hM h3 w' he⟩
theorem sV (hF:∀x,au (pQ F j x)):au (pV F j l):=by
 rintro M w v hM ⟨cs,rfl,h⟩ w' he
 exact⟨cs,rfl,sU hF hM h w' he⟩
theorem rH (hF:∀x,Fits 3 true (pQ F j x)):∀{l:List Rat},nJ (l.map (uc F j))
 |[]=>trivial
 |x::_=>⟨hF x,rH hF⟩
theorem CI:∀{l:List Rat},jF (l.map (uc F j))=l.length*3
 |[]=>rfl
 |_::l=>by show 3+jF (l.map (uc F j))=(l.length+1)*3; rw[CI]; omega
theorem ej (hF:∀x,Fits 3 true (pQ F j x)) {n:Nat} (hn:n=l.length*3):Fits n true (pV F j l):=lz (rH hF) (by rw[hn]; exact CI)
inductive dW (F:Rat->Pred) (j:Nat):List Fd->List Rat->Prop
 |z:dW F j [] []
 |c {i:Nat} {x:Rat} {fs:List Fd} {l:List Rat} (h:i<=j):dW F j fs l->dW F j (⟨true,3,pQ F i x⟩::fs) (x::l)
variable {fs:List Fd}
theorem dW.ok (h:dW F j fs l):∀{w:World} {cs:List Value},az fs w cs->az (l.map (uc F j)) w cs:=by
 induction h with
 |z=>exactλh=>h
 |c hi _ ih=>exact λ⟨h1,h2,h3⟩=>⟨h1,vw hi _ _ h2,ih h3⟩
theorem dW.pV (h:dW F j fs l):∀w v,pS fs w v->Wx.pV F j l w v:=λ_ _ ⟨cs,e,hc⟩=>⟨cs,e,h.ok hc⟩
end
end Wx
