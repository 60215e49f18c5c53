import Derived.Test.YtocboimkilkklaaGreatCRCSemAppend
import Derived.Test.YtocboimkilkklaaGreatJRC13
namespace Wx
open Go Go.RowKit
structure It where
 p:Pred
 nl:au p
structure Bk where
 b:Nat
 sz:Nat
 agg:Bool
 items:List It
def Bk.put (e:Bk) (b idx:Nat) (it:It):Bk:=if e.b=b then { e with items:=e.items.set idx it }else e
def Ao (H:List Bk) (b idx:Nat) (it:It):List Bk:=H.map λe=>e.put b idx it
section
variable {P:Program} {ops:Array Oper} {ms:List Nat} {c:dS} {V:List Vr} {A:List Al} {G:List bf} {i:Nat} {L:Nat->Bool} {β:Nat->Nat->Prop} {a:Act} {w:World} {o:Oper}{d:Nat} {x y z:Operand} {ty:TypeId} {pos:String} {aJ:Array Edge}
theorem Cw (hI:bq c V A G L β a w) (hd:nw ms i L) {v:Vr} (hv:v∈V) (ho:bS ms i v=true) (cI:v.kd=.obj):zn (own c V L β) c L a w v (β v.id):=(aQ cI).1 (hI.var v hv (hd.live ho))
theorem tv (hd:nw ms i L) {st:List (Nat×Rel)} {p:Rel} (h:(st.all λq=>(q.1==i||(ms.getD i 0).testBit q.1)||(ms.getD q.1 0).testBit i)=true):cont L p st=cont (λj=>(ms.getD i 0).testBit j) p st:=by
 rw[List.all_eq_true]at h
 refine jd λq hq=>?_
 have:=h q hq
 simp only[Bool.or_eq_true,beq_iff_eq]at this
 rcases this with(h5|h5)|h5
 ·rw[h5,hd.no,hd.irrefl]
 ·rw[hd.before _ h5,h5]
 ·have h6:=hd.behind _ h5
  rw[h6]
  cases h7:(ms.getD i 0).testBit q.1 with
  |false=>rfl
  |true=>rw[hd.before _ h7]at h6; cases h6
variable {T E:TypeId} {n cap:Nat}
theorem CC {sz b o':Nat} {m:Int} (h:Has ms G i x (bY (.slice (some ⟨b,o',none⟩) n cap))) (hy:Has ms G i y (pI m)) (ht:mw P T E sz) (h0:0<=m) (h1:m<n) (hA:(A.all λq=>q.tag != some i)=true) (hp:Post G i (bY (.pointer (some ⟨b,o'+m.toNat*sz,none⟩)))):
  OpOk P ops ms c V A G i ⟨some d,.indexAddr T x y,ty,pos,aJ,none⟩:=
 dg rfl rfl rfl (.inr hA) hp λL β a w hI hd=>by
  have hx:a.eval x=.slice (some ⟨b,o',none⟩) n cap:=(h.spec hI hd).out
  have hi:a.eval y=.int .i64 m:=(hy.spec hI hd).out
  refine⟨_,w,?_,Below.refl _ _,λ_ _=>rfl⟩
  show(do pure (Next.value (<-Instr.indexAt T (a.eval x) (a.eval y)))).run P w=_
  rw[hx,hi,Sem.run_bind,nh ht h0 h1]
  rfl
theorem I7 {A':Option Addr} (h:Has ms G i x (bY (.slice A' n cap))) (ht:P.underlying T=some (.slice E)) (hp:Post G i (pI (n:Int))):
  OpOk P ops ms c V A G i ⟨some d,.call ⟨.builtin .len,#[x],#[T]⟩,ty,pos,aJ,none⟩:=
 lK rfl rfl rfl rfl h hp λρ w h=>⟨.int .i64 n,by
  have h:ρ x=.slice A' n cap:=h
  have hr:(Builtin.len_ #[T] ty #[ρ x]).run P w=.ok (.int .i64 n) w:=by
   rw[h]
   unfold Builtin.len_
   simp[run_underlying ht,goInt]
  show(do let d <-resolve ρ ⟨.builtin .len,#[x],#[T]⟩ ty; invoke d.target d.args).run P w=_
  simp only[resolve,invoke,pure_bind,builtin]
  rw[show(#[x]:Array Operand).map ρ=#[ρ x] by simp,Sem.run_bind,hr]
  rfl,λ_ _=>rfl⟩
end
end Wx

namespace Wx
open Go Go.RowKit
theorem ow:nw [0] 0 none_:=⟨rfl,λj h=>by simp at h,λ_ _=>rfl⟩
section
variable {P:Program} {Q:Exit->Act->World->Prop} {c:dS} {V:List Vr} {A:List Al} {G:List bf} {a:Act} {w:World} {o:Oper}{d:Nat} {x y z:Operand} {ty:TypeId} {pos:String} {aJ:Array Edge}{K:Act->World->Prop}
theorem Does.mono {K':Act->World->Prop} (h:Does P o a w K) (hK:∀a w,K a w->K' a w):Does P o a w K':=by
 unfold Does at *
 generalize (execOp a.eval o).run P w=r at *
 match r,h with
 |.ok (.value v) w',h=>exact hK _ _ h
 |.ok .skip w',h=>exact hK _ _ h
 |.ok (.enter f args) w',h=>exact h.mono λe w'' ⟨v,h1,h2⟩=>⟨v,h1,hK _ _ h2⟩
theorem dy.of {ops:Array Oper} (hg:o.guard=none) (h:Does P o a w K):dy P ops o a w K:=by
 unfold dy
 rw[if_pos (by simp[Region.wanted,hg])]
 exact h
end
end Wx

namespace Wx
open Go Go.RowKit
theorem nJ {M:Nat->Nat->Prop} {B:Nat->Prop} {w:World} (h:dz M w):dz (minus M B) w:=λk o hk=>h k o hk.1
section
variable {P:Program} {Q:Exit->Act->World->Prop} {c:dS} {V:List Vr} {A:List Al} {G:List bf} {a:Act} {w:World} {o:Oper}{d:Nat} {x y z u:Operand} {ty:TypeId} {pos:String} {aJ:Array Edge}{fn:Func}
end
end Wx

namespace Wx
open Go Go.RowKit
section
variable {P:Program} {Q:Exit->Act->World->Prop} {c:dS} {V:List Vr} {A:List Al} {G:List bf} {a:Act} {w:World}
end
def W4 (H:List Bk) (b:Nat) (X:List It):List Bk:=H.map λe=>if e.b=b then { e with items:=X }else e
end Wx

namespace Wx
open Go Go.RowKit
theorem tJ (A:Option Addr) (n cap:Nat):Fits 1 false (bY (.slice A n cap)):=pA (fZ _ _ _) rfl rfl
section
variable {L1 L2:List Rat} {s1 s2 k:Nat} {f:Rat}
end
end Wx

namespace Wx
open Go Go.RowKit
def rJ:List Fd->Nat->Option (List Fd)
 |[],n=>match Nat.beq n 0 with
  |true=>some []
  |false=>none
 |⟨ag,m,p⟩::fs,n=>match Nat.beq n 0 with
  |true=>some []
  |false=>match Nat.ble m n with
   |true=>match rJ fs (Nat.sub n m)with
    |some l=>some (⟨ag,m,p⟩::l)
    |none=>none
   |false=>none
def vV:List Fd->Nat->Nat->Option (List Fd)
 |[],_,n=>rJ [] n
 |⟨ag,m,p⟩::fs,off,n=>match Nat.beq off 0 with
  |true=>rJ (⟨ag,m,p⟩::fs) n
  |false=>match Nat.ble m off with
   |true=>vV fs (Nat.sub off m) n
   |false=>none
def FO:Bool->Option (List Fd)->Option Pred
 |true,some [⟨true,_,p⟩]=>some p
 |true,some l=>some (pS l)
 |false,some [⟨false,_,p⟩]=>some p
 |_,_=>none
def wH:List Fd->Nat->Option (List Fd)
 |[],n=>match Nat.beq n 0 with
  |true=>some []
  |false=>none
 |⟨ag,m,p⟩::fs,n=>match Nat.beq n 0 with
  |true=>some (⟨ag,m,p⟩::fs)
  |false=>match Nat.ble m n with
   |true=>wH fs (Nat.sub n m)
   |false=>none
def zF:List Fd->Option (List Fd)->Option (List Fd)
 |[],r=>r
 |g::gs,r=>match zF gs r with
  |some l=>some (g::l)
  |none=>none
def xw (gs:List Fd) (n:Nat):List Fd->Nat->Option (List Fd)
 |[],_=>match Nat.beq n 0 with
  |true=>zF gs (some [])
  |false=>none
 |⟨ag,m,p⟩::fs,off=>match Nat.beq off 0 with
  |true=>zF gs (wH (⟨ag,m,p⟩::fs) n)
  |false=>match Nat.ble m off with
   |true=>match xw gs n fs (Nat.sub off m)with
    |some l=>some (⟨ag,m,p⟩::l)
    |none=>none
   |false=>none
theorem JH:∀{fs:List Fd} {n:Nat} {l:List Fd} {w:World} {cs:List Value},rJ fs n=some l->aG fs w cs->aG l w (cs.take n)/\n<=cs.length:=by
 intro fs
 induction fs with
 |nil=>
  intro n l w cs h hc
  unfold rJ at h
  split at h
  ·rename_i hb; have hb:=Nat.eq_of_beq_eq_true hb; subst hb; cases h; exact⟨rfl,Nat.zero_le _⟩
  ·cases h
 |cons f fs ih=>
  intro n l w cs h hc
  obtain⟨ag,m,p⟩:=f
  unfold rJ at h
  split at h
  ·rename_i hb; have hb:=Nat.eq_of_beq_eq_true hb; subst hb; cases h; exact⟨rfl,Nat.zero_le _⟩
  ·split at h
   ·rename_i hm
    have hm:=Nat.le_of_ble_eq_true hm
    split at h
    ·rename_i l' hl
     cases h
     obtain⟨h1,h2,h3⟩:=hc
     obtain⟨k1,k2⟩:=ih hl h3
     simp only[List.length_drop]at k2 h1
     have k2:n-m<=cs.length-m:=k2
     refine⟨⟨?_,?_,?_⟩,by omega⟩
     ·show m<=(cs.take n).length; rw[List.length_take]; omega
     ·show p w (aq ag ((cs.take n).take m)); rw[List.take_take,Nat.min_eq_left hm]; exact h2
     ·show aG l' w ((cs.take n).drop m); rw[List.drop_take]; exact k1
    ·cases h
   ·cases h
theorem Et:∀{fs:List Fd} {off n:Nat} {l:List Fd} {w:World} {cs:List Value},vV fs off n=some l->aG fs w cs->aG l w ((cs.drop off).take n)/\n+off<=cs.length+(if n=0 then off else 0):=by
 intro fs
 induction fs with
 |nil=>
  intro off n l w cs h hc
  have hn:n=0:=by
   unfold vV rJ at h
   split at h
   ·rename_i hb; exact Nat.eq_of_beq_eq_true hb
   ·cases h
  subst hn
  have:cs=[]:=hc
  subst this
  have h:rJ [] 0=some l:=h
  cases h
  simp[aG]
 |cons f fs ih=>
  intro off n l w cs h hc
  obtain⟨ag,m,p⟩:=f
  unfold vV at h
  split at h
  ·rename_i hb; have hb:=Nat.eq_of_beq_eq_true hb; subst hb
   obtain⟨k1,k2⟩:=JH h hc
   exact⟨by rw[List.drop_zero]; exact k1,by omega⟩
  ·split at h
   ·rename_i hm
    have hm:=Nat.le_of_ble_eq_true hm
    obtain⟨h1,h2,h3⟩:=hc
    obtain⟨k1,k2⟩:=ih h h3
    rw[List.drop_drop]at k1
    have e:m+Nat.sub off m=off:=by show m+(off-m)=off; omega
    rw[show(({ agg:=ag,n:=m,p:=p }:Fd).n+Nat.sub off m)=off from e]at k1
    refine⟨k1,?_⟩
    rw[List.length_drop]at k2
    have h1:m<=cs.length:=h1
    have k2:n+(off-m)<=cs.length-m+(if n=0 then off-m else 0):=k2
    split at k2<;>rename_i hn
    ·rw[if_pos hn]; omega
    ·rw[if_neg hn]; omega
   ·cases h
variable {ag:Bool} {q:Pred}
theorem Ed {l:List Fd} {w:World} {ds:List Value} (h:FO ag (some l)=some q) (hc:aG l w ds):q w (aq ag ds):=by
 unfold FO at h
 split at h
 ·rename_i _ e
  cases h
  cases e
  obtain⟨h1,h2,h3⟩:=hc
  have h3:ds.drop _=[]:=h3
  have:ds.take _=ds:=List.take_of_length_le (List.drop_eq_nil_iff.1 h3)
  rw[this]at h2
  exact h2
 ·rename_i _ e
  cases h
  cases e
  exact⟨ds,rfl,hc⟩
 ·rename_i _ e
  cases h
  cases e
  obtain⟨h1,h2,h3⟩:=hc
  have h3:ds.drop _=[]:=h3
  have:ds.take _=ds:=List.take_of_length_le (List.drop_eq_nil_iff.1 h3)
  rw[this]at h2
  exact h2
 ·cases h
variable {fs:List Fd} {off n N:Nat}
theorem pM (h:FO ag (vV fs off n)=some q):∀w cs,cs.length=N->pS fs w (aq true cs)->q w (aq ag ((cs.drop off).take n)):=by
 rintro w cs _ ⟨ds,e,hd⟩
 have:=cT (show aq true cs=aq true ds from e)
 subst this
 cases hs:vV fs off n with
 |none=>rw[hs]at h; cases ag<;>cases h
 |some l=>rw[hs]at h; exact Ed h (Et hs hd).1
theorem Hf:∀{fs:List Fd} {n:Nat} {l:List Fd} {w:World} {cs:List Value},wH fs n=some l->aG fs w cs->aG l w (cs.drop n):=by
 intro fs
 induction fs with
 |nil=>
  intro n l w cs h hc
  unfold wH at h
  split at h
  ·cases h; have:cs=[]:=hc; subst this; simp[aG]
  ·cases h
 |cons f fs ih=>
  intro n l w cs h hc
  obtain⟨ag,m,p⟩:=f
  unfold wH at h
  split at h
  ·rename_i hb; have hb:=Nat.eq_of_beq_eq_true hb; subst hb; cases h; exact hc
  ·split at h
   ·rename_i hm
    have hm:=Nat.le_of_ble_eq_true hm
    have:=ih h hc.2.2
    rw[List.drop_drop]at this
    rwa [show(({ agg:=ag,n:=m,p:=p }:Fd).n+Nat.sub n m)=n from(show m+(n-m)=n by omega)]at this
   ·cases h
theorem xU:∀{gs r l:List Fd} {w:World} {ds es:List Value},zF gs (some r)=some l->aG gs w ds->aG r w es->aG l w (ds++es):=by
 intro gs
 induction gs with
 |nil=>intro r l w ds es h hd he; cases h; have:ds=[]:=hd; subst this; exact he
 |cons g gs ih=>
  intro r l w ds es h hd he
  unfold zF at h
  split at h
  ·rename_i l' hl
   cases h
   obtain⟨h1,h2,h3⟩:=hd
   refine⟨by rw[List.length_append]; omega,?_,?_⟩
   ·rw[List.take_append_of_le_length h1]; exact h2
   ·rw[List.drop_append_of_le_length h1]; exact ih hl h3 he
  ·cases h
theorem EK:∀{gs:List Fd},zF gs none=none:=by
 intro gs
 induction gs with
 |nil=>rfl
 |cons g gs ih=>unfold zF; rw[ih]
theorem A7:∀{fs gs hs:List Fd} {off n:Nat} {w:World} {cs ds:List Value},xw gs n fs off=some hs->aG fs w cs->aG gs w ds->ds.length=n->aG hs w (cs.take off++ds++cs.drop (off+n)):=by
 intro fs
 induction fs with
 |nil=>
  intro gs hs off n w cs ds h hc hd hl
  unfold xw at h
  split at h
  ·rename_i hb; have hb:=Nat.eq_of_beq_eq_true hb; subst hb
   have:cs=[]:=hc
   subst this
   have:=xU h hd (show aG [] w []from rfl)
   simpa using this
  ·cases h
 |cons f fs ih=>
  intro gs hs off n w cs ds h hc hd hl
  obtain⟨ag,m,p⟩:=f
  unfold xw at h
  split at h
  ·rename_i hb; have hb:=Nat.eq_of_beq_eq_true hb; subst hb
   cases hr:wH (⟨ag,m,p⟩::fs) n with
   |none=>rw[hr,EK]at h; cases h
   |some r=>
    rw[hr]at h
    have:=xU h hd (Hf hr hc)
    simpa using this
  ·split at h
   ·rename_i hm
    have hm:=Nat.le_of_ble_eq_true hm
    split at h
    ·rename_i l hl'
     cases h
     obtain⟨h1,h2,h3⟩:=hc
     have h1:m<=cs.length:=h1
     have h2:p w (aq ag (cs.take m)):=h2
     have:=ih hl' h3 hd hl
     have e:m+Nat.sub off m=off:=by show m+(off-m)=off; omega
     have hlen:m<=(cs.take off).length:=by rw[List.length_take]; omega
     have e2:(cs.take off++ds++cs.drop (off+n))=cs.take off++(ds++cs.drop (off+n)):=by rw[List.append_assoc]
     refine⟨?_,?_,?_⟩
     ·show m<=_; rw[e2,List.length_append]; omega
     ·show p w (aq ag (List.take m _)); rw[e2,List.take_append_of_le_length hlen,List.take_take,Nat.min_eq_left hm]; exact h2
     ·show aG l w (List.drop m _)
      rw[e2,List.drop_append_of_le_length hlen,List.drop_take]
      have this:aG l w ((cs.drop m).take (off-m)++ds++(cs.drop m).drop ((off-m)+n)):=this
      rw[List.drop_drop,show m+(off-m+n)=off+n by omega,List.append_assoc]at this
      exact this
    ·cases h
   ·cases h
variable {hs:List Fd}
theorem Gh (h:xw [⟨ag,n,q⟩] n fs off=some hs):
  ∀w cs ds,cs.length=N->ds.length=n->pS fs w (aq true cs)->q w (aq ag ds)->pS hs w (aq true (cs.take off++ds++cs.drop (off+n))):=by
 rintro w cs ds _ hl ⟨es,e,hc⟩ hq
 have:=cT (show aq true cs=aq true es from e)
 subst this
 exact⟨_,rfl,A7 h hc (show aG [⟨ag,n,q⟩] w ds from⟨by show n<=_; omega,by show q w (aq ag (ds.take n)); rw[List.take_of_length_le (by omega)]; exact hq,List.drop_eq_nil_iff.2 (by show ds.length<=n; omega)⟩) hl⟩
theorem Gi {gs:List Fd} (h:xw gs n fs off=some hs):
  ∀w cs ds,cs.length=N->ds.length=n->pS fs w (aq true cs)->pS gs w (aq true ds)->pS hs w (aq true (cs.take off++ds++cs.drop (off+n))):=by
 rintro w cs ds _ hl ⟨es,e,hc⟩ ⟨es',e',hd⟩
 have:=cT (show aq true cs=aq true es from e)
 subst this
 have:=cT (show aq true ds=aq true es' from e')
 subst this
 exact⟨_,rfl,A7 h hc hd hl⟩
def pQ (F:Rat->Pred) (j:Nat) (x:Rat):Pred:=λw v=>bB j x/\F x w v
abbrev pR (j:Nat) (x:Rat):Pred:=pQ aD j x
abbrev pN (j:Nat) (x:Rat):Pred:=pQ aS j x
variable {F:Rat->Pred} {j:Nat} {x:Rat}
theorem rF (h:bB j x):∀w v,F x w v->pQ F j x w v:=λ_ _ k=>⟨h,k⟩
variable {k:Nat}
theorem uz (h:j<=k):∀w v,pQ F j x w v->pQ F k x w v:=λ_ _ q=>⟨q.1.mono h,q.2⟩
theorem lX {y:Rat} (e:x=y) (h:j<=k):∀w v,pQ F j x w v->pQ F k y w v:=e▸uz h
theorem oJ:au (pR j x):=λM w v hM h=>λw' he=>⟨h.1,eC x M w v hM h.2 w' he⟩
theorem oI:au (pN j x):=λM w v hM h=>λw' he=>⟨h.1,eD x M w v hM h.2 w' he⟩
theorem lB:Fits 3 true (pR j x):=λw v h=>bg x w v h.2
theorem pD:Fits 3 true (pN j x):=λw v h=>cg x w v h.2
inductive Zl
 |r|f|i|b|n|s
def Zl.fd:Zl->Fd
 |.r=>⟨true,3,pR 1 0⟩
 |.f=>⟨true,3,dG⟩
 |.i=>⟨false,1,pI 0⟩
 |.b=>⟨false,1,pB false⟩
 |.n=>⟨false,1,bY (.slice none 0 0)⟩
 |.s=>⟨false,1,bY (.string ⟨#[]⟩)⟩
def Zl.cs:Zl->List Value
 |.r|.f=>[.bool false,.slice none 0 0,.slice none 0 0]
 |.i=>[.int .i64 0]
 |.b=>[.bool false]
 |.n=>[.slice none 0 0]
 |.s=>[.string ⟨#[]⟩]
theorem XO:bB 1 (0:Rat):=⟨by show(0:Rat).num.natAbs<2^1; decide,by show(0:Rat).den<2^1; decide⟩
theorem Ni (w:World):∀l:List Zl,aG (l.map Zl.fd) w (l.flatMap Zl.cs):=by
 intro l
 induction l with
 |nil=>rfl
 |cons z l ih=>
  have e:(Zl.fd z).n=(Zl.cs z).length:=by cases z<;>rfl
  have hp:(Zl.fd z).p w (aq (Zl.fd z).agg (Zl.cs z)):=by
   cases z
   ·exact⟨XO,cU w⟩
   ·trivial
   all_goals rfl
  show(Zl.fd z).n<=_/\_/\_
  rw[List.flatMap_cons,List.length_append,List.take_append_of_le_length (by omega),List.take_of_length_le (by omega),List.drop_append_of_le_length (by omega),List.drop_of_length_le (by omega)]
  exact⟨by omega,hp,ih⟩
theorem C7:∀l:List Zl,∀u∈l.flatMap Zl.cs,gm u:=by
 intro l u hu
 obtain⟨z,_,hz⟩:=List.mem_flatMap.1 hu
 cases z<;>simp[Zl.cs]at hz<;>(try rcases hz with rfl|rfl)<;>(try subst hz)<;>intro n<;>simp
theorem zf (l:List Zl) (w:World):pS (l.map Zl.fd) w (aq true (l.flatMap Zl.cs)):=⟨_,rfl,Ni w l⟩
def zh (F:Rat->Pred) (j:Nat) (x:Rat):Fd:=⟨true,3,pQ F j x⟩
def pV (F:Rat->Pred) (j:Nat) (l:List Rat):Pred:=pS (l.map (zh F j))
section
variable {F:Rat->Pred} {j k:Nat} {l:List Rat}
theorem M8 (h:j<=k):∀{l:List Rat} {w:World} {cs:List Value},aG (l.map (zh F j)) w cs->aG (l.map (zh F k)) w cs
 |[],_,_,h=>h
 |_::_,_,_,⟨h1,h2,h3⟩=>⟨h1,uz h _ _ h2,M8 h h3⟩
theorem AW (h:j<=k):∀w v,pV F j l w v->pV F k l w v:=λ_ _ ⟨cs,e,hc⟩=>⟨cs,e,M8 h hc⟩
theorem jM {l':List Rat} (e:l=l') (h:j<=k):∀w v,pV F j l w v->pV F k l' w v:=e▸AW h
theorem Jd:∀{l:List Rat} {w:World} {cs:List Value},aG (l.map (zh F j)) w cs->cs.length=3*l.length
 |[],_,_,h=>by rw[show _=[]from h]; rfl
 |_::l,_,cs,⟨h1,_,h3⟩=>by
  have:=Jd h3
  have h1:3<=cs.length:=h1
  have:cs.length-3=3*l.length:=by rw[<-List.length_drop]; exact this
  rw[List.length_cons]; omega
theorem Eg:∀{l:List Rat} {w:World} {cs:List Value} (q:Nat),aG (l.map (zh F j)) w cs->aG ((l.drop q).map (zh F j)) w (cs.drop (q*3))
 |l,_,_,0,h=>by rw[Nat.zero_mul,List.drop_zero,List.drop_zero]; exact h
 |[],_,_,_+1,h=>by rw[show _=[]from h]; rfl
 |_::_,_,_,q+1,⟨_,_,h3⟩=>by
  have:=Eg q h3
  rw[List.drop_drop,show(zh F j _).n+q*3=(q+1)*3 from(show 3+q*3=(q+1)*3 by omega)]at this
  exact this
theorem Eh:∀{l:List Rat} {w:World} {cs:List Value} (q:Nat),aG (l.map (zh F j)) w cs->aG ((l.take q).map (zh F j)) w (cs.take (q*3))
 |l,_,_,0,_=>by rw[Nat.zero_mul,List.take_zero,List.take_zero]; rfl
 |[],_,_,_+1,h=>by rw[show _=[]from h]; rfl
 |_::_,w,cs,q+1,⟨h1,h2,h3⟩=>by
  have h1:3<=cs.length:=h1
  refine⟨?_,?_,?_⟩
  ·show 3<=(cs.take ((q+1)*3)).length; rw[List.length_take]; omega
  ·show pQ F j _ w (aq true ((cs.take ((q+1)*3)).take 3)); rw[List.take_take,Nat.min_eq_left (by omega)]; exact h2
  ·show aG _ w ((cs.take ((q+1)*3)).drop 3); rw[List.drop_take,show(q+1)*3-3=q*3 by omega]; exact Eh q h3
theorem O2 {x:Rat} {w:World} {ds:List Value} (hl:ds.length=3):aG ([x].map (zh F j)) w ds↔pQ F j x w (aq true ds):=by
 refine⟨λ⟨_,h2,_⟩=>?_,λh=>⟨by show 3<=_; omega,?_,List.drop_eq_nil_iff.2 (by show _<=3; omega)⟩⟩
 ·have h2:pQ F j x w (aq true (ds.take 3)):=h2
  rwa [List.take_of_length_le (by omega)]at h2
 ·show pQ F j x w (aq true (ds.take 3))
  rwa [List.take_of_length_le (by omega)]
theorem tN {l:List Rat} {q:Nat} (h:q<l.length):(l.drop q).take 1=[l.getD q 0]:=by
 rw[List.drop_eq_getElem_cons h,List.take_succ_cons,List.take_zero,List.getD_eq_getElem?_getD,List.getElem?_eq_getElem h]; rfl
variable {off:Nat}
theorem O5 (q m:Nat) (ho:off=q*3) {N:Nat}:∀w cs,cs.length=N->pV F j l w (aq true cs)->pV F j ((l.drop q).take m) w (aq true ((cs.drop off).take (m*3))):=by
 rintro w cs _ ⟨ds,e,h⟩
 have:=cT (show aq true cs=aq true ds from e)
 subst this ho
 exact⟨_,rfl,Eh m (Eg q h)⟩
theorem Jj (q:Nat) (ho:off=q*3) (hq:q<l.length) {N:Nat}:∀w cs,cs.length=N->pV F j l w (aq true cs)->pQ F j (l.getD q 0) w (aq true ((cs.drop off).take 3)):=by
 intro w cs hN h
 obtain⟨ds,e,h⟩:=O5 q 1 ho w cs hN h
 rw[tN hq]at h
 have e:=cT (show aq true _=aq true ds from e)
 have hl:=Jd h
 rw[Nat.one_mul]at e
 rw[e]
 exact(O2 hl).1 h
theorem uj (hF:∀x,au (pQ F j x)):∀{l:List Rat} {M:Nat->Nat->Prop} {w:World} {cs:List Value},dz M w->aG (l.map (zh F j)) w cs->aP M (λw=>aG (l.map (zh F j)) w cs) w
 |[],_,_,_,_,h=>λ_ _=>h
 |x::_,M,w,_,hM,⟨h1,h2,h3⟩=>λw' he=>⟨h1,hF x M w _ hM h2 w' he,uj hF hM h3 w' he⟩
theorem uk (hF:∀x,au (pQ F j x)):au (pV F j l):=by
 rintro M w v hM ⟨cs,rfl,h⟩ w' he
 exact⟨cs,rfl,uj hF hM h w' he⟩
theorem tc (hF:∀x,Fits 3 true (pQ F j x)):∀{l:List Rat},oU (l.map (zh F j))
 |[]=>trivial
 |x::_=>⟨hF x,tc hF⟩
theorem Eo:∀{l:List Rat},kR (l.map (zh F j))=l.length*3
 |[]=>rfl
 |_::l=>by show 3+kR (l.map (zh F j))=(l.length+1)*3; rw[Eo]; omega
theorem jE (hF:∀x,Fits 3 true (pQ F j x)) {n:Nat} (hn:n=l.length*3):Fits n true (pV F j l):=jZ (tc hF) (by rw[hn]; exact Eo)
inductive mc (F:Rat->Pred) (j:Nat):List Fd->List Rat->Prop
 |z:mc F j [] []
 |c {i:Nat} {x:Rat} {fs:List Fd} {l:List Rat} (h:i<=j):mc F j fs l->mc F j (⟨true,3,pQ F i x⟩::fs) (x::l)
variable {fs:List Fd}
theorem mc.ok (h:mc F j fs l):∀{w:World} {cs:List Value},aG fs w cs->aG (l.map (zh F j)) w cs:=by
 induction h with
 |z=>exactλh=>h
 |c hi _ ih=>exact λ⟨h1,h2,h3⟩=>⟨h1,uz hi _ _ h2,ih h3⟩
theorem mc.pV (h:mc F j fs l):∀w v,pS fs w v->Wx.pV F j l w v:=λ_ _ ⟨cs,e,hc⟩=>⟨cs,e,h.ok hc⟩
end
end Wx
