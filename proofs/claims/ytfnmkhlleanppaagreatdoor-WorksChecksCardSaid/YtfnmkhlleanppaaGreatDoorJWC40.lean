import Derived.Test.YtfnmkhlleanppaaGreatDoorCWCWkK
namespace Wx
open Go Go.RowKit
set_option linter.unusedVariables false
def uC (v:Value):Prop:=∃A m c,v=.slice A m c
theorem xK {v:Value} (h:uC v):Fits 1 false (aG v):=by
 obtain⟨A,m,c,rfl⟩:=h
 exact cg (bu _ _ _) rfl rfl
theorem D7 {sz m:Nat} {ag:Bool} {E:TypeId} {f:Nat->Pred} {s:Value} {X:Nat->Prop} {w:World} (h:uf sz m ag E f s X w):uC s:=by
 rcases h with⟨e,_,_⟩|⟨bb,cap,cur,e,_⟩
 ·exact⟨_,_,_,e⟩
 ·exact⟨_,_,_,e⟩
section
variable {P:Program} {c:bQ} {V:List Vr} {G:List aN} {a:Act} {w:World}{ops:Array Oper} {id sz m d:Nat} {ag:Bool} {E:TypeId} {f:Nat->Pred} {p:Pred} {s:Value}
theorem CC {n0:Nat} {T tx:TypeId} {x y:Operand} {ty:TypeId} {pos:String} {aft:Array Edge} (f':Nat->Pred) (hf':∀i w v,(if i<m then f i else p) w v->i<m+1->f' i w v) (hk:V[n0]?=some (mD id sz m ag E f s):=by exact rfl) (h1:Has [0] G 0 x (aG s):=by exact hs) (h2:Has [0] G 0 y (aI sz ag 1 λ_=>p):=by exact hs) (hmax:m+1<=1073741824:=by omega)
  (rA:∀i,aO (f i):=by intro i; exact IZ) (hnp:aO p:=by exact IZ) (hfit:Fits sz ag p:=by exact pz) (hagg:ag=false->sz=1:=by intro h; first|cases h|rfl) (ht:xn P T tx E sz=true:=by kernel_rfl) (hV:bE V=true:=by kernel_rfl) (hG:bT G=true:=by kernel_rfl) (hu:dG V id n0=true:=by kernel_rfl)
  (hd':decide (d<c.N)=true:=by kernel_rfl) (AY:(V.all λy=>y.slot != d)=true:=by kernel_rfl) (hid:(id != d)=true:=by kernel_rfl) (CP:(G.all λe=>e.slot != d)=true:=by kernel_rfl):
  ∀a w,Inv c V [] G none_ a w->aW P ops ⟨some d,.call ⟨.builtin .append,#[x,y],#[T,tx]⟩,ty,pos,aft,none⟩ a w (λa w=>∃s',uC s'/\Inv c (V.set n0 (mD id sz (m+1) ag E f' s')) [] (⟨none,none,d,aG s'⟩::G) none_ a w):=by
 rintro a w ⟨β,hI⟩
 have hx0:=List.mem_of_getElem? hk
 have hO:=(aB rfl).1 (hI.var _ hx0 rfl)
 have hB:aJ (minus (own c V none_ β) (β id)) (λw=>uf sz m ag E f s (β id) w) w:=hO.2
 have Ea:∀k,β id k->∀o,own c V none_ β k o:=λk hk o=>.inr ⟨_,hx0,rfl,hk,Nat.zero_le _⟩
 obtain⟨w',X',s',hr,hle,FT,hgr⟩:=ot (ty:=ty) (yv:=a.eval y) (aF hI) Ea hB.out (h2.spec hI gl) (ir ht) hagg hfit rA hnp hmax
 have ex:a.eval x=s:=(h1.spec hI gl).out
 rw[<-ex]at hr
 have hn':∀i,aO (if i<m then f i else p):=λi=>by by_cases h:i<m<;>simp only[h,if_true,if_false]; exact rA i; exact hnp
 refine .of rfl (di hr ⟨s',D7 hgr,gW β id X',?_⟩)
 have hm:=hI.move (B':=X') (R':=Ls sz (m+1) ag E f' s') (w':=w') hV hG hk (cX hu) hle FT (xR hgr) ?_
 ·refine hm.qo (of_decide_eq_true hd') (λx hx=>?_) (λe he=>by simpa using List.all_eq_true.1 CP e he) λ_ _=>rfl
  rcases List.mem_or_eq_of_mem_set hx with hx|rfl
  ·simpa using List.all_eq_true.1 AY x hx
  ·simpa using hid
 ·intro w'' he
  have fg:cS (minus (own c V none_ β) (β id)) w':=λk o hk=>by
   obtain⟨k1,k2⟩:=aF hI k o hk.1
   exact⟨Nat.lt_of_lt_of_le k1 hle.size,λu dH=>k2 u (by rw[<-World.cell?_of_block (w:=w) (w':=w') (a:=⟨k,o,none⟩) (hle.block k k1 hk.2)]; exact dH)⟩
  have hb:∀k,X' k->w''.heap[k]?=w'.heap[k]?:=λk hk=>he.block k (xR hgr k hk).1 λo ho=>(FT k hk).elim ho.2 λh=>absurd (aF hI k o ho.1).1 (Nat.not_lt.2 h)
  refine(hgr.keep hn' fg he hb).imp (λh=>h) ?_
  rintro⟨bb,cap,cur,j1,j2,j3,j4,j5,j6,j7,j8⟩
  exact⟨bb,cap,cur,j1,j2,j3,j4,j5,j6,j7,λi hi=>hf' i _ _ (j8 i hi) hi⟩
variable {q:Pred}
theorem B8 (hI:Inv c V [] G none_ a w) (k:Nat) (hc:∀w v,p w v->aI sz ag m f w s->q w v) (hk:V[k]?=some (mD id sz m ag E f s):=by exact rfl) (h1:dz d G=some p:=by exact rfl) (hu:((V.eraseIdx k).all λy=>y.id != id)=true:=by kernel_rfl):Inv c (V.eraseIdx k) [] (⟨none,none,d,q⟩::G) none_ a w:=by
 obtain⟨β,h⟩:=hI
 have hx:=List.mem_of_getElem? hk
 have hsub:∀y,y∈V.eraseIdx k->y∈V/\y.id≠id:=λy hy=>⟨List.mem_of_mem_eraseIdx hy,by
  have:=List.all_eq_true.1 hu y hy
  simpa using this⟩
 have hO:=(aB rfl).1 (h.var _ hx rfl)
 have hB:aJ (minus (own c V none_ β) (β id)) (λw=>uf sz m ag E f s (β id) w) w:=hO.2
 have dD:∀k,β id k->mine c k:=λk hk'=>(hO.1 k hk').1
 obtain⟨k1,td⟩:=cx h1
 have es:aJ (own c V none_ β) (λw=>p w (sl a d)) w:=h.ew _ (List.mem_of_getElem? td) rfl rfl
 have eo:∀k' o,own c (V.eraseIdx k) none_ β k' o->minus (own c V none_ β) (β id) k' o:=by
  rintro k' o (hM|⟨y,hy,q1,q2,q3⟩)
  ·exact⟨.inl hM,λhb=>eX h (dD k' hb) hM⟩
  ·obtain⟨hy,hid⟩:=hsub y hy
   exact⟨.inr ⟨y,hy,q1,q2,q3⟩,λhb=>h.apart y _ k' hy hx q1 rfl hid q2 hb⟩
 refine⟨β,h.size,h.defers,h.below,h.old,λy hy hl=>(h.var y (hsub y hy).1 hl).keep rfl rfl (λ_ _=>rfl) (Nat.le_refl _) (λF hF=>hF.sub λk o _ hh=>(eo k o hh).1) (λF hF=>hF.sub λk o _ hh=>⟨(eo k o hh.1).1,hh.2⟩) rfl,λy z g hy hz=>h.apart y z g (hsub y hy).1 (hsub z hz).1,(λp hp=>by cases hp),λe he ho hf'=>?_⟩
 rcases List.mem_cons.1 he with rfl|he
 ·intro w' hw'
  refine hc w' _ (es w' (hw'.mono λk o _ hh=>(eo k o hh).1)) ?_
  rcases hB w' (hw'.mono λk o _ hh=>eo k o hh)with⟨e,hm,_⟩|⟨bb,cap,cur,e,_,d3,d4,d5,d6,_,d8⟩
  ·subst e hm
   exact⟨none,0,rfl,Nat.le_refl _,Nat.zero_le _,λh=>absurd h (Nat.lt_irrefl 0)⟩
  ·subst e
   refine⟨_,cap,rfl,d5,d6,λ_=>⟨bb,0,rfl,λq hq=>⟨(cur.drop (q*sz)).take sz,?_,λj v hj=>?_,d8 q hq⟩⟩⟩
   ·have:=Nat.mul_le_mul_right sz (Nat.lt_of_lt_of_le hq d5)
    rw[Nat.succ_mul]at this
    rw[List.length_take,List.length_drop]
    omega
   ·rw[Nat.zero_add]
    exact gw d3 _ _ j v hj
 ·exact(h.ew e he ho hf').sub λk o _ hh=>(eo k o hh).1
theorem sw {o:Oper} {V0:List Vr} {G0:List aN} (h:∀a w,Inv c V0 [] G0 none_ a w->aW P ops o a w (Inv c V [] G none_)) (k d:Nat) (hc:∀w v,p w v->aI sz ag m f w s->q w v) (hk:V[k]?=some (mD id sz m ag E f s):=by exact rfl) (h1:dz d G=some p:=by exact rfl) (hu:((V.eraseIdx k).all λy=>y.id != id)=true:=by kernel_rfl):∀a w,Inv c V0 [] G0 none_ a w->aW P ops o a w (Inv c (V.eraseIdx k) [] (⟨none,none,d,q⟩::G) none_):=
 λa w hI=>(h a w hI).mono λ_ _ h'=>B8 h' k hc hk h1 hu
end
end Wx

namespace Wx
open Go Go.RowKit Go.Proofs
set_option linter.unusedVariables false
abbrev lI (nm:ByteArray) (st:Int) (s:Value):Value:=.agg #[.string nm,.int .i64 st,s]
abbrev Fj (nm:ByteArray) (st:Int) (m:Nat) (f:Nat->Pred):Pred:=pS [⟨false,1,pT nm⟩,⟨false,1,pI st⟩,⟨false,1,aI 1 false m f⟩]
abbrev BZ (t:ByteArray):Pred:=Fj (AG t) (AH t) (qQ t) λk=>pT (cZ t (k+1))
variable {nm:ByteArray} {st:Int} {s:Value}
theorem tc:∀w v,pS [⟨false,1,pT nm⟩,⟨false,1,pI st⟩,⟨false,1,aG s⟩] w v->aG (lI nm st s) w v:=by
 rintro w v ⟨cs,rfl,h1,h2,h3,h4,h5,h6,h7⟩
 rcases cs with _|⟨x,_|⟨y,_|⟨z,r⟩⟩⟩
 ·simp at h1
 ·simp at h3
 ·simp at h5
 ·have h2:x=.string nm:=h2
  have h4:y=.int .i64 st:=h4
  have h6:z=s:=h6
  have h7:r=[]:=h7
  rw[h2,h4,h6,h7]
  rfl
variable {m:Nat} {f:Nat->Pred}
theorem pJ:∀w v,aG (lI nm st s) w v->aI 1 false m f w s->Fj nm st m f w v:=by
 rintro w v rfl h
 exact⟨[.string nm,.int .i64 st,s],rfl,by simp,rfl,by simp,rfl,by simp,h,rfl⟩
theorem Eg {HO:ByteArray} {st':Int} {m':Nat} (h1:nm=HO) (h2:st=st') (h3:m=m'):∀w v,Fj nm st m f w v->Fj HO st' m' f w v:=by
 subst h1 h2 h3
 exactλ_ _ h=>h
variable {t:ByteArray}
theorem fF (h:eu t≠0):∀w v,pS [⟨false,1,aG (.string ⟨#[]⟩)⟩,⟨false,1,pI 0⟩,⟨false,1,aG (.slice none 0 0)⟩] w v->BZ t w v:=λw v hv=>by
 obtain⟨h1,h2,h3⟩:=DO h
 show Fj (AG t) (AH t) (qQ t) _ w v
 rw[h1,h2,h3]
 exact pJ w v (tc w v hv) ⟨none,0,rfl,Nat.le_refl _,Nat.zero_le _,λh=>absurd h (Nat.lt_irrefl 0)⟩
theorem uw (h:eu t=0) {m:Nat} (hm:m=aL t-2):∀w v,Fj (vI (cZ t 0)) (Ap (cZ t 0)) m (λk=>pT (cZ t (k+1))) w v->BZ t w v:=by
 obtain⟨h1,h2,h3⟩:=AI h
 exact Eg h1.symm h2.symm (by rw[h3,hm])
section
variable {P:Program} {ops:Array Oper} {ms:List Nat} {c:bQ} {V:List Vr} {A:List Al} {G:List aN} {i d:Nat} {x y z:Operand} {ty t u:TypeId} {pos:String} {aft:Array Edge}{T:TypeId} {v:Vr} {b off:Nat} {nm:ByteArray} {st:Int} {s:Value}
theorem C4 (N:Nat) (hv:ia N V=some v:=by exact rfl) (ho:bC ms i v=true:=by exact rfl) (bR:v.kd=.obj:=by exact rfl) (hst:(v.st.all λq=>(q.1==i||(ms.getD i 0).testBit q.1)||(ms.getD q.1 0).testBit i)=true:=by kernel_rfl)
  (hc:cont (λj=>(ms.getD i 0).testBit j) v.c0 v.st=jo b 3 (aG (lI nm st s)):=by exact rfl) (h:Has ms G i y (aG (.pointer (some ⟨b,off,none⟩))):=by exact hs) (hp:Post G i (aG s):=by exact pt rfl) (ht:wQ P T false 1=true:=by kernel_rfl) (hoff:off=2:=by rfl):OpOk P ops ms c V A G i ⟨some d,.load T y,ty,pos,aft,none⟩:=by
 obtain⟨⟨k,hk⟩,_⟩:=cH hv
 subst hoff
 refine rY k hk ho bR hst hc h (m:=1) (by omega) (bV ht) (λw cs hl e=>?_) (aV _) hp
 have e:Value.agg cs.toArray=lI nm st s:=e
 have e:cs=[.string nm,.int .i64 st,s]:=by simpa using e
 subst e
 rfl
theorem Dv {s':Value} {r:List (Nat×Rel)} (N:Nat) (lS:uC s') (hv:ia N V=some v:=by exact rfl) (ho:bC ms i v=true:=by exact rfl) (bR:v.kd=.obj:=by exact rfl) (hst:(v.st.all λq=>(q.1==i||(ms.getD i 0).testBit q.1)||(ms.getD q.1 0).testBit i)=true:=by kernel_rfl)
  (hc:cont (λj=>(ms.getD i 0).testBit j) v.c0 v.st=jo b 3 (aG (lI nm st s)):=by exact rfl) (h:Has ms G i y (aG (.pointer (some ⟨b,off,none⟩))):=by exact hs) (hz:Has ms G i z (aG s'):=by exact hs) (hm:Ci i v.st=some (jo b 3 (aG (lI nm st s')),r):=by exact rfl) (ht:wQ P T false 1=true:=by kernel_rfl)
  (hr:(r.all λr=>(ms.getD r.1 0).testBit i)=true:=by kernel_rfl) (eE:(V.all λy=>y.id==v.id||y.st.all λq=>q.1 != i)=true:=by kernel_rfl) (hoff:off=2:=by rfl):OpOk P ops ms c V A G i ⟨none,.store T y z,ty,pos,aft,none⟩:=by
 obtain⟨⟨k',hk⟩,_⟩:=cH hv
 obtain⟨m,h5,h6⟩:=iV hm
 subst hoff
 refine kR (m:=1) (ag:=false) k' hk ho bR hst m h5 (by rw[h6]; exact hr) eE hc h (by omega) (bV ht) hz (xK lS) (λw cs ds hl hl2 hq hp=>?_) (aV _)
 have e:Value.agg cs.toArray=lI nm st s:=hq
 have e:cs=[.string nm,.int .i64 st,s]:=by simpa using e
 subst e
 match ds,hl2,hp with
 |[u'],_,hp=>
  have dH:u'=s':=hp
  subst dH
  rfl
theorem yJ (N:Nat) (hv:ia N V=some v:=by exact rfl) (ho:bC ms i v=true:=by exact rfl) (bR:v.kd=.obj:=by exact rfl) (hst:(v.st.all λq=>(q.1==i||(ms.getD i 0).testBit q.1)||(ms.getD q.1 0).testBit i)=true:=by kernel_rfl)
  (hc:cont (λj=>(ms.getD i 0).testBit j) v.c0 v.st=jo b 3 (aG (lI nm st s)):=by exact rfl) (h:Has ms G i y (aG (.pointer (some ⟨b,0,none⟩))):=by exact hs) (hp:Post G i (aG (lI nm st s)):=by exact pt rfl) (ht:wQ P T true 3=true:=by kernel_rfl):OpOk P ops ms c V A G i ⟨some d,.load T y,ty,pos,aft,none⟩:=by
 obtain⟨⟨k,hk⟩,_⟩:=cH hv
 exact rY k hk ho bR hst hc h (m:=3) (by omega) (bV ht) (λw cs hl h=>by rw[List.drop_zero,List.take_of_length_le (by omega)]; exact h) (aV _) hp
end
theorem jM {nm:ByteArray} {st:Int} {m:Nat} {f:Nat->Pred}:Fits 3 true (Fj nm st m f):=mB (fs:=[⟨false,1,pT nm⟩,⟨false,1,pI st⟩,⟨false,1,aI 1 false m f⟩]) ⟨aE _,fits_int _,aP,trivial⟩ rfl
end Wx
