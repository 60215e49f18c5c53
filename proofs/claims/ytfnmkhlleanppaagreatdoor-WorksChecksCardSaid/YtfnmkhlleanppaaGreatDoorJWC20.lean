import Derived.Test.YtfnmkhlleanppaaGreatDoorJWC19
import Derived.Laws.IdiomStrings
namespace Wx
open Go Go.RowKit
set_option linter.unusedVariables false
section
variable {α:Type} {sz:Nat} {F:α->Pred} {d0:α} {l:List α}
def CJ (sz:Nat) (F:α->Pred) (x:α):Fd:=⟨true,sz,F x⟩
def pG (sz:Nat) (F:α->Pred) (l:List α):Pred:=pS (l.map (CJ sz F))
theorem xQ:∀{l:List α} {w:World} {cs:List Value},aH (l.map (CJ sz F)) w cs->cs.length=l.length*sz
 |[],_,_,h=>by rw[show _=[]from h,List.length_nil,List.length_nil,Nat.zero_mul]
 |_::l,_,cs,⟨h1,_,h3⟩=>by
  have:=xQ h3
  have h1:sz<=cs.length:=h1
  have:cs.length-sz=l.length*sz:=by rw[<-List.length_drop]; exact this
  rw[List.length_cons,Nat.succ_mul]; omega
theorem ur:∀{l:List α} {w:World} {cs:List Value} (q:Nat),aH (l.map (CJ sz F)) w cs->aH ((l.drop q).map (CJ sz F)) w (cs.drop (q*sz))
 |l,_,_,0,h=>by rw[Nat.zero_mul,List.drop_zero,List.drop_zero]; exact h
 |[],_,_,_+1,h=>by rw[show _=[]from h,List.drop_nil,List.drop_nil]; rfl
 |_::_,_,_,q+1,⟨_,_,h3⟩=>by
  have:=ur q h3
  rw[List.drop_drop,show(CJ sz F _).n+q*sz=(q+1)*sz from(show sz+q*sz=(q+1)*sz by rw[Nat.succ_mul,Nat.add_comm])]at this
  exact this
theorem uu:∀{l:List α} {w:World} {cs:List Value} (q:Nat),aH (l.map (CJ sz F)) w cs->aH ((l.take q).map (CJ sz F)) w (cs.take (q*sz))
 |l,_,_,0,_=>by rw[Nat.zero_mul,List.take_zero,List.take_zero]; rfl
 |[],_,_,_+1,h=>by rw[show _=[]from h,List.take_nil,List.take_nil]; rfl
 |_::_,w,cs,q+1,⟨h1,h2,h3⟩=>by
  have h1:sz<=cs.length:=h1
  have hq:(q+1)*sz=q*sz+sz:=Nat.succ_mul q sz
  refine⟨?_,?_,?_⟩
  ·show sz<=(cs.take ((q+1)*sz)).length; rw[List.length_take]; omega
  ·show F _ w (aq true ((cs.take ((q+1)*sz)).take sz)); rw[List.take_take,Nat.min_eq_left (by omega)]; exact h2
  ·show aH _ w ((cs.take ((q+1)*sz)).drop sz); rw[List.drop_take,show(q+1)*sz-sz=q*sz by omega]; exact uu q h3
theorem D4 {x:α} {w:World} {ds:List Value} (hl:ds.length=sz):aH ([x].map (CJ sz F)) w ds↔F x w (aq true ds):=by
 refine⟨λ⟨_,h2,_⟩=>?_,λh=>⟨by show sz<=_; omega,?_,List.drop_eq_nil_iff.2 (by show _<=sz; omega)⟩⟩
 ·have h2:F x w (aq true (ds.take sz)):=h2
  rwa [List.take_of_length_le (by omega)]at h2
 ·show F x w (aq true (ds.take sz))
  rwa [List.take_of_length_le (by omega)]
theorem Jr {q:Nat} (h:q<l.length):(l.drop q).take 1=[l.getD q d0]:=by
 rw[List.drop_eq_getElem_cons h,List.take_succ_cons,List.take_zero,List.getD_eq_getElem?_getD,List.getElem?_eq_getElem h]; rfl
variable {off:Nat}
theorem zz (q m:Nat) (ho:off=q*sz):∀w cs,pG sz F l w (aq true cs)->pG sz F ((l.drop q).take m) w (aq true ((cs.drop off).take (m*sz))):=by
 rintro w cs ⟨ds,e,h⟩
 have:=cR (show aq true cs=aq true ds from e)
 subst this ho
 exact⟨_,rfl,uu m (ur q h)⟩
theorem zy (q:Nat) (ho:off=q*sz) (hq:q<l.length):∀w cs,pG sz F l w (aq true cs)->F (l.getD q d0) w (aq true ((cs.drop off).take sz)):=by
 intro w cs h
 obtain⟨ds,e,h⟩:=zz q 1 ho w cs h
 rw[Jr hq]at h
 have e:=cR (show aq true _=aq true ds from e)
 have hl:=xQ h
 rw[Nat.one_mul]at e
 rw[e]
 exact(D4 (by rw[hl,List.length_singleton,Nat.one_mul])).1 h
end
abbrev Gz (i s n sz:Nat) (T:TypeId):Vr:=⟨i,s,none,none,.grow n sz,T,3,true,pv aT,[]⟩
theorem vG {V:List Vr} {i s n m sz T:Nat} (hm:n=m:=by first|rfl|omega) (h:ia i V=some (Gz i s n sz T):=by exact rfl):∃r:Rel,ia (Gz i s m sz T).id V=some ⟨(Gz i s m sz T).id,(Gz i s m sz T).slot,none,none,(Gz i s m sz T).kd,(Gz i s m sz T).T,(Gz i s m sz T).n,(Gz i s m sz T).agg,r,[]⟩/\((Gz i s m sz T).born=none/\(Gz i s m sz T).dead=none/\(Gz i s m sz T).st=[])/\∀F w v,r F w v->(Gz i s m sz T).c0 F w v:=hm▸⟨_,h,⟨rfl,rfl,rfl⟩,λ_ _ _ h=>h⟩
section
variable {P:Program} {ops:Array Oper} {ms:List Nat} {c:bQ} {V:List Vr} {A:List Al} {G:List aN} {i:Nat}{d:Nat} {x y:Operand} {ty:TypeId} {pos:String} {aft:Array Edge} {α:Type} {F:α->Pred} {l:List α}{sz N:Nat}
theorem hW {S f:Nat} (q m:Nat) (h:Has ms G i x (dM N true (pG sz F l)):=by exact hs) (hle:q*sz+m*sz<=N:=by decide) (hp:Post G i (dM (m*sz) true (pG sz F ((l.drop q).take m))):=by exact pt rfl) (hf:∀b o w,(Instr.fieldAt S (.pointer (some ⟨b,o,none⟩)) f).run P w=.ok (.pointer (some ⟨b,o+q*sz,none⟩)) w:=by exactλ_ _ _=>by kernel_rfl)
  (hA:(A.all λq=>q.tag != some i)=true:=by kernel_rfl):OpOk P ops ms c V A G i ⟨some d,.fieldAddr S x f,ty,pos,aft,none⟩:=
 bD rfl rfl rfl (.inr hA) hp λL β a w hI hd=>by
  have hr:=h.spec hI hd
  obtain⟨b,o,cs,e,_⟩:=hr.out
  refine⟨.pointer (some ⟨b,o+q*sz,none⟩),w,?_,Below.refl _ _,λw' he=>sk he hr e (λw cs hl=>zz q m rfl w cs) hle⟩
  show(do pure (Next.value (<-Instr.fieldAt S (a.eval x) f))).run P w=_
  rw[e,Sem.run_bind,hf]
  rfl
variable {o:Nat}
theorem CM {l:List α} {n q:Nat} {d0:α} (hq:q<n):((l.drop o).take n).getD q d0=l.getD (o+q) d0:=by
 rw[List.getD_eq_getElem?_getD,List.getD_eq_getElem?_getD,List.getElem?_take,if_pos hq,List.getElem?_drop]
variable {T:TypeId}
theorem hI' (n q:Nat) (d0:α) (h:Has ms G i x (dM N true (pG sz F ((l.drop o).take n))):=by exact hs) (hy:Has ms G i y (pI (q:Int)):=by exact(Wx.hs).imp (bh (by omega))) (hq:q<n:=by omega) (hl:o+n<=l.length:=by omega) (hp:Post G i (dM sz true (F (l.getD (o+q) d0))):=by exact pt rfl) (hsz:N=n*sz:=by exact rfl) (ht:DJ P T n sz=true:=by kernel_rfl) (hA:(A.all λq=>q.tag != some i)=true:=by kernel_rfl):
  OpOk P ops ms c V A G i ⟨some d,.indexAddr T x y,ty,pos,aft,none⟩:=
 bD rfl rfl rfl (.inr hA) hp λL β a w hI hd=>by
  have hr:=h.spec hI hd
  have h2:a.eval y=.int .i64 (q:Int):=(hy.spec hI hd).out
  obtain⟨b,o',cs,e,_⟩:=hr.out
  have h1:=Nat.mul_le_mul_right sz (Nat.succ_le_of_lt hq)
  rw[Nat.succ_mul]at h1
  refine⟨.pointer (some ⟨b,o'+q*sz,none⟩),w,?_,Below.refl _ _,λw' he=>sk he hr e (λw cs hl2 hh=>?_) (by omega)⟩
  ·show(do pure (Next.value (<-Instr.indexAt T (a.eval x) (a.eval y)))).run P w=_
   rw[e,h2,Sem.run_bind]
   have:=ko ht (b:=b) (off:=o') (m:=(q:Int)) (by omega) (by omega) w
   rw[Int.toNat_natCast]at this
   rw[this]
   rfl
  ·have:=zy (d0:=d0) q rfl (by rw[List.length_take,List.length_drop]; omega) w cs hh
   rwa [CM hq]at this
theorem hS (n:Nat) (d0:α) (h:Has ms G i x (dM N true (pG sz F ((l.drop o).take n))):=by exact hs) (hl:o+n<=l.length:=by omega) (hp:Post G i (aI sz true n λk=>F (l.getD (o+k) d0)):=by exact pt rfl) (hN:N=n*sz:=by exact rfl) (hm:n<=1000000:=by decide) (ht:DJ P T n sz=true:=by kernel_rfl):OpOk P ops ms c V A G i ⟨some d,.slice T x none none none,ty,pos,aft,none⟩:=
 eL rfl rfl rfl rfl h hp λρ w h1=>by
  obtain⟨b,o',cs,e,ov,hc,hv⟩:=h1
  refine⟨.slice (some ⟨b,o',none⟩) n n,?_,?_⟩
  ·show(do pure (Next.value (<-Instr.sliceAt T (ρ x) none none none))).run P w=_
   rw[e,Sem.run_bind,qs ht]
   rfl
  ·rintro w' ⟨b',o'',cs',e',hl',hc',hv'⟩
   rw[e]at e'
   cases e'
   refine⟨_,n,rfl,Nat.le_refl _,by unfold maxLen; omega,λ_=>⟨b,o',rfl,λk hk=>⟨(cs'.drop (k*sz)).take sz,?_,λq u hq=>?_,?_⟩⟩⟩
   ·have h1:=Nat.mul_le_mul_right sz (Nat.succ_le_of_lt hk)
    rw[Nat.succ_mul]at h1
    rw[List.length_take,List.length_drop,hl']; omega
   ·rw[List.getElem?_take]at hq
    split at hq
    ·rw[List.getElem?_drop]at hq
     have:=hc' _ _ hq
     rwa [Nat.add_assoc]
    ·cases hq
   ·have:=zy (d0:=d0) k rfl (by rw[List.length_take,List.length_drop]; omega) w' cs' hv'
    rwa [CM hk]at this
variable {p:Pred} {m s:Nat} {xv yv:Vr}
theorem IY (hx:Dy ms i s V=some xv:=by exact rfl) (hv:sN i V=some yv:=by exact rfl) (h1:Has ms G i (.tmp s) p:=by exact hs) (hp:Post G i p:=by exact pt rfl) (bR:xv.kd=.grow m sz:=by exact rfl) (fD:xv.dead=some i:=by exact rfl) (eD:yv.kd=.grow m sz:=by exact rfl) (hT:yv.T=xv.T:=by exact rfl) (hal:(A.all λp=>p.var != yv.id||p.tag.any λj=>(ms.getD j 0).testBit i)=true:=by kernel_rfl):
  OpOk P ops ms c V A G i ⟨some d,.move (.tmp s),ty,pos,aft,none⟩:=by
 obtain⟨⟨k,hk⟩,hb⟩:=eP hv
 obtain⟨⟨k1,td⟩,lS,ho⟩:=kC hx
 exact zn k1 td lS ho bR fD k hk hb eD hT hal h1 hp
theorem IB (hx:Dy ms i s V=some xv:=by exact rfl) (hv:sN i V=some yv:=by exact rfl) (h1:Has ms G i (.tmp s) p:=by exact hs) (hp:Post G i p:=by exact pt rfl) (bR:xv.kd=.grow m sz:=by exact rfl) (fD:xv.dead=some i:=by exact rfl) (eD:yv.kd=.grow m sz:=by exact rfl) (hT:yv.T=xv.T:=by exact rfl) (hal:(A.all λp=>p.var != yv.id||p.tag.any λj=>(ms.getD j 0).testBit i)=true:=by kernel_rfl):
  OpOk P ops ms c V A G i ⟨some d,.assign (.tmp s),ty,pos,aft,none⟩:=by
 obtain⟨⟨k,hk⟩,hb⟩:=eP hv
 obtain⟨⟨k1,td⟩,lS,ho⟩:=kC hx
 exact tG k1 td lS ho bR fD k hk hb eD hT hal h1 hp
theorem bF {ops:Array Oper} {o:Oper} {V V1 V2:List Vr} {G G1 G2:List aN} (nv:List Vr) (A1:List Al) (ne:List aN) (hV:oa nv V V1) (hG:ic ne G G1) (hs:OpOk P #[o] [0] c V1 A1 G1 0 o) (kV:dA V1 V2) (kG:aA G1 G2) (hn:gH nv A1 ne=true:=by kernel_rfl) (hwf:nY c.N [o] V1 A1 G1=true:=by kernel_rfl) (hg:o.guard=none:=by exact rfl):∀a w,Inv c V [] G none_ a w->aW P ops o a w (Inv c V2 [] G2 none_):=λa w h=>by
 refine .of hg ?_
 have:=hs none_ a w (dS h hV hG hn) gl (qy hwf rfl)
 unfold aW at this
 rw[if_pos (by simp[Region.wanted,hg])]at this
 refine this.mono λa' w' h'=>?_
 obtain⟨β,h'⟩:=h'
 exact eY hwf kV kG ⟨β,h'.congr (eJ hwf) λj hj=>by
  have:j=0:=by simpa using hj
  subst this
  rfl⟩
end
end Wx

namespace Wx
open Go Go.RowKit Go.Proofs
set_option linter.unusedVariables false
section
variable {α:Type} {F:α->Pred} {P:Program} {ops:Array Oper} {ms:List Nat} {c:bQ} {V:List Vr} {A:List Al} {G:List aN} {i d:Nat} {x y:Operand} {ty:TypeId} {pos:String} {aft:Array Edge}{T:TypeId}
theorem Gi {p:Pred} (E:TypeId) (z:Value) (ht:iZ P T E 1:=by exact⟨by kernel_rfl,λ_=>by kernel_rfl⟩) (pM:∀w,(zeroValue E).run P w=.ok z w:=by exactλ_=>by kernel_rfl) (nO:z.cells=#[z]:=by exact rfl) (hf:Fits 1 false p) (h1:Has ms G i x p:=by exact hs) (hp:Post G i (aI 1 false 1 λ_=>p):=by exact pt rfl):
  OpOk P ops ms c V A G i ⟨some d,.buildSlice T 1 #[(0,x)],ty,pos,aft,none⟩:=mY (z:=[z]) ht pM nO rfl (by decide) h1 hf hp
variable {s r:ByteArray}
theorem dN (h:s.size=r.size) (h2:∀k,k<s.size->bz s k=bz r k):s=r:=by
 refine ByteArray.ext (Array.ext h λk h1 h3=>?_)
 have:=h2 k h1
 rw[cG h1,cG (h▸h1:k<r.size)]at this
 exact UInt8.toNat_inj.1 (Int.ofNat.inj this)
variable {k:Nat}
theorem qL {a b:Nat} (h:a+k<b) (hb:b<=s.size):bz (s.extract a b) k=bz s (a+k):=by
 rw[cG (s:=s) (by omega),cG (s:=s.extract a b) (by rw[ByteArray.size_extract]; omega),ByteArray.getElem_extract]
theorem uk:bz (s++r) k=if k<s.size then bz s k else bz r (k-s.size):=by
 unfold bz
 rw[show(s++r).data=s.data++r.data from ByteArray.data_append,Array.toList_append,List.getD_eq_getElem?_getD]
 by_cases h:k<s.size
 ·rw[if_pos h,List.getElem?_append_left (by rw[Array.length_toList]; exact h),List.getD_eq_getElem?_getD]
 ·rw[if_neg h,List.getElem?_append_right (by rw[Array.length_toList]; exact Nat.not_lt.1 h),List.getD_eq_getElem?_getD,Array.length_toList]
  rfl
variable {sz n:Nat} {ag:Bool} {f:Nat->Pred}
theorem tQ {w:World} {l h cap:Nat} {A':Option Addr} (hl:l<=h) (hh:h<=n) (k:aI sz ag n f w (.slice A' n cap)):aI sz ag (h-l) (λk=>f (l+k)) w (sliced A' l h cap sz):=by
 obtain⟨A2,sQ,e2,h3,h4,h5⟩:=k
 injection e2 with e1 _ e4
 subst e1 e4
 refine⟨_,cap-l,rfl,by omega,by omega,λhpos=>?_⟩
 obtain⟨b,o,rfl,hf⟩:=h5 (by omega)
 refine⟨b,o+l*sz,by rw[if_neg (by omega:¬cap=l)]; show some (Addr.add _ _)=_; rw[Addr.add_mid],λq hq=>?_⟩
 obtain⟨cs,c1,c2,c3⟩:=hf (l+q) (by omega)
 refine⟨cs,c1,λj u hj=>?_,c3⟩
 have:=c2 j u hj
 rw[Nat.add_mul]at this
 rw[show o+l*sz+q*sz+j=o+(l*sz+q*sz)+j by omega]
 exact this
theorem KA {E:TypeId} {z:Operand} (l h:Nat) (hr:Has ms G i x (aI sz ag n f)) (hy:Has ms G i y (pI (l:Int))) (hz:Has ms G i z (pI (h:Int))) (hl:l<=h) (hh:h<=n) (ht:iZ P T E sz) (hp:Post G i (aI sz ag (h-l) λk=>f (l+k))):OpOk P ops ms c V A G i ⟨some d,.slice T x (some y) (some z) none,ty,pos,aft,none⟩:=
 bD rfl rfl rfl (.inl rfl) hp λL β a w hI hd=>by
  have k:=hr.spec hI hd
  obtain⟨A',cap,ex,h1,h2,_⟩:=k.out
  have ex:a.eval x=.slice A' n cap:=ex
  have ey:a.eval y=.int .i64 l:=(hy.spec hI hd).out
  have ez:a.eval z=.int .i64 h:=(hz.spec hI hd).out
  rw[ex]at k
  refine⟨sliced A' l h cap sz,w,?_,Below.refl _ _,k.imp λw' kk=>tQ hl hh kk⟩
  show(do pure (Next.value (<-Instr.sliceAt T (a.eval x) (some (a.eval y)) (some (a.eval z)) none))).run P w=_
  rw[ex,ey,ez]
  have e1:(Instr.sliceBound (.int .i64 (l:Int)) h .sliceB).run P w=.ok l w:=by
   have:=run_sliceBound (P:=P) w .i64 (l:Int) h .sliceB (by omega) (by omega)
   simpa using this
  have e2:(Instr.sliceBound (.int .i64 (h:Int)) cap .sliceAcap).run P w=.ok h w:=by
   have:=run_sliceBound (P:=P) w .i64 (h:Int) cap .sliceAcap (by omega) (by omega)
   simpa using this
  have hr:(Instr.sliceAt T (.slice A' n cap) (some (.int .i64 l)) (some (.int .i64 h)) none).run P w=.ok (sliced A' l h cap sz) w:=by
   simp only[Instr.sliceAt,Sem.run_bind,run_underlying ht.under,Result.andThen_ok,Instr.slice,Instr.sliceBounds,Sem.run_pure]
   simp only[if_true,Option.isSome_none,Bool.false_eq_true,if_false,e1,e2,Result.andThen_ok,ht.size w,sliced]
  rw[Sem.run_bind,hr]
  rfl
end
end Wx

namespace Wx
open Go Go.RowKit Go.Proofs Go.ChangeShapes Go.WideShapes Go.ChangeAt Go.Deep
section
variable {H:Type} {enc:TypeId×Value->H} {P:Program} {w:World}
end
end Wx
