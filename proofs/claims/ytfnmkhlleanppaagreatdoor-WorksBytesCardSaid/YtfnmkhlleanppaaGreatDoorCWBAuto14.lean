import Derived.Test.YtfnmkhlleanppaaGreatDoorJWB22
namespace Wx
open Go Go.RowKit
set_option linter.unusedVariables false
section
variable {α:Type} {sz:Nat} {F:α->Pred} {d0:α} {l:List α}
def yu (sz:Nat) (F:α->Pred) (x:α):Fd:=⟨true,sz,F x⟩
def pG (sz:Nat) (F:α->Pred) (l:List α):Pred:=pS (l.map (yu sz F))
theorem ur:∀{l:List α} {w:World} {cs:List Value},aG (l.map (yu sz F)) w cs->cs.length=l.length*sz
 |[],_,_,h=>by rw[show _=[]from h,List.length_nil,List.length_nil,Nat.zero_mul]
 |_::l,_,cs,⟨h1,_,h3⟩=>by
  have:=ur h3
  have h1:sz<=cs.length:=h1
  have:cs.length-sz=l.length*sz:=by rw[<-List.length_drop]; exact this
  rw[List.length_cons,Nat.succ_mul]; omega
theorem qY:∀{l:List α} {w:World} {cs:List Value} (q:Nat),aG (l.map (yu sz F)) w cs->aG ((l.drop q).map (yu sz F)) w (cs.drop (q*sz))
 |l,_,_,0,h=>by rw[Nat.zero_mul,List.drop_zero,List.drop_zero]; exact h
 |[],_,_,_+1,h=>by rw[show _=[]from h,List.drop_nil,List.drop_nil]; rfl
 |_::_,_,_,q+1,⟨_,_,h3⟩=>by
  have:=qY q h3
  rw[List.drop_drop,show(yu sz F _).n+q*sz=(q+1)*sz from(show sz+q*sz=(q+1)*sz by rw[Nat.succ_mul,Nat.add_comm])]at this
  exact this
theorem qZ:∀{l:List α} {w:World} {cs:List Value} (q:Nat),aG (l.map (yu sz F)) w cs->aG ((l.take q).map (yu sz F)) w (cs.take (q*sz))
 |l,_,_,0,_=>by rw[Nat.zero_mul,List.take_zero,List.take_zero]; rfl
 |[],_,_,_+1,h=>by rw[show _=[]from h,List.take_nil,List.take_nil]; rfl
 |_::_,w,cs,q+1,⟨h1,h2,h3⟩=>by
  have h1:sz<=cs.length:=h1
  have hq:(q+1)*sz=q*sz+sz:=Nat.succ_mul q sz
  refine⟨?_,?_,?_⟩
  ·show sz<=(cs.take ((q+1)*sz)).length; rw[List.length_take]; omega
  ·show F _ w (ah true ((cs.take ((q+1)*sz)).take sz)); rw[List.take_take,Nat.min_eq_left (by omega)]; exact h2
  ·show aG _ w ((cs.take ((q+1)*sz)).drop sz); rw[List.drop_take,show(q+1)*sz-sz=q*sz by omega]; exact qZ q h3
theorem zO {x:α} {w:World} {ds:List Value} (hl:ds.length=sz):aG ([x].map (yu sz F)) w ds↔F x w (ah true ds):=by
 refine⟨λ⟨_,h2,_⟩=>?_,λh=>⟨by show sz<=_; omega,?_,List.drop_eq_nil_iff.2 (by show _<=sz; omega)⟩⟩
 ·have h2:F x w (ah true (ds.take sz)):=h2
  rwa [List.take_of_length_le (by omega)]at h2
 ·show F x w (ah true (ds.take sz))
  rwa [List.take_of_length_le (by omega)]
theorem DT {q:Nat} (h:q<l.length):(l.drop q).take 1=[l.getD q d0]:=by
 rw[List.drop_eq_getElem_cons h,List.take_succ_cons,List.take_zero,List.getD_eq_getElem?_getD,List.getElem?_eq_getElem h]; rfl
variable {off:Nat}
theorem vx (q m:Nat) (ho:off=q*sz):∀w cs,pG sz F l w (ah true cs)->pG sz F ((l.drop q).take m) w (ah true ((cs.drop off).take (m*sz))):=by
 rintro w cs ⟨ds,e,h⟩
 have:=cw (show ah true cs=ah true ds from e)
 subst this ho
 exact⟨_,rfl,qZ m (qY q h)⟩
theorem vw (q:Nat) (ho:off=q*sz) (hq:q<l.length):∀w cs,pG sz F l w (ah true cs)->F (l.getD q d0) w (ah true ((cs.drop off).take sz)):=by
 intro w cs h
 obtain⟨ds,e,h⟩:=vx q 1 ho w cs h
 rw[DT hq]at h
 have e:=cw (show ah true _=ah true ds from e)
 have hl:=ur h
 rw[Nat.one_mul]at e
 rw[e]
 exact(zO (by rw[hl,List.length_singleton,Nat.one_mul])).1 h
end
abbrev Gz (i s n sz:Nat) (T:TypeId):Vr:=⟨i,s,none,none,.grow n sz,T,3,true,pv az,[]⟩
theorem vG {V:List Vr} {i s n m sz T:Nat} (hm:n=m:=by first|rfl|omega) (h:pC i V=some (Gz i s n sz T):=by exact rfl):∃r:Rel,pC (Gz i s m sz T).id V=some ⟨(Gz i s m sz T).id,(Gz i s m sz T).slot,none,none,(Gz i s m sz T).kd,(Gz i s m sz T).T,(Gz i s m sz T).n,(Gz i s m sz T).agg,r,[]⟩/\((Gz i s m sz T).born=none/\(Gz i s m sz T).dead=none/\(Gz i s m sz T).st=[])/\∀F w v,r F w v->(Gz i s m sz T).c0 F w v:=hm▸⟨_,h,⟨rfl,rfl,rfl⟩,λ_ _ _ h=>h⟩
section
variable {P:Program} {ops:Array Oper} {ms:List Nat} {c:bJ} {V:List Vr} {A:List Al} {G:List aI} {i:Nat}{d:Nat} {x y:Operand} {ty:TypeId} {pos:String} {au:Array Edge} {α:Type} {F:α->Pred} {l:List α}{sz N:Nat}
theorem hW {S f:Nat} (q m:Nat) (h:Has ms G i x (cZ N true (pG sz F l)):=by exact hs) (hle:q*sz+m*sz<=N:=by decide) (hp:Post G i (cZ (m*sz) true (pG sz F ((l.drop q).take m))):=by exact pt rfl) (hf:∀b o w,(Instr.fieldAt S (.pointer (some ⟨b,o,none⟩)) f).run P w=.ok (.pointer (some ⟨b,o+q*sz,none⟩)) w:=by exactλ_ _ _=>by kernel_rfl)
  (hA:(A.all λq=>q.tag != some i)=true:=by kernel_rfl):OpOk P ops ms c V A G i ⟨some d,.fieldAddr S x f,ty,pos,au,none⟩:=
 bk rfl rfl rfl (.inr hA) hp λL β a w hI hd=>by
  have hr:=h.spec hI hd
  obtain⟨b,o,cs,e,_⟩:=hr.out
  refine⟨.pointer (some ⟨b,o+q*sz,none⟩),w,?_,Below.refl _ _,λw' he=>oZ he hr e (λw cs hl=>vx q m rfl w cs) hle⟩
  show(do pure (Next.value (<-Instr.fieldAt S (a.eval x) f))).run P w=_
  rw[e,Sem.run_bind,hf]
  rfl
variable {o:Nat}
theorem yx {l:List α} {n q:Nat} {d0:α} (hq:q<n):((l.drop o).take n).getD q d0=l.getD (o+q) d0:=by
 rw[List.getD_eq_getElem?_getD,List.getD_eq_getElem?_getD,List.getElem?_take,if_pos hq,List.getElem?_drop]
variable {T:TypeId}
theorem hI' (n q:Nat) (d0:α) (h:Has ms G i x (cZ N true (pG sz F ((l.drop o).take n))):=by exact hs) (hy:Has ms G i y (pI (q:Int)):=by exact(Wx.hs).imp (bV (by omega))) (hq:q<n:=by omega) (hl:o+n<=l.length:=by omega) (hp:Post G i (cZ sz true (F (l.getD (o+q) d0))):=by exact pt rfl) (hsz:N=n*sz:=by exact rfl) (ht:zy P T n sz=true:=by kernel_rfl) (hA:(A.all λq=>q.tag != some i)=true:=by kernel_rfl):
  OpOk P ops ms c V A G i ⟨some d,.indexAddr T x y,ty,pos,au,none⟩:=
 bk rfl rfl rfl (.inr hA) hp λL β a w hI hd=>by
  have hr:=h.spec hI hd
  have h2:a.eval y=.int .i64 (q:Int):=(hy.spec hI hd).out
  obtain⟨b,o',cs,e,_⟩:=hr.out
  have h1:=Nat.mul_le_mul_right sz (Nat.succ_le_of_lt hq)
  rw[Nat.succ_mul]at h1
  refine⟨.pointer (some ⟨b,o'+q*sz,none⟩),w,?_,Below.refl _ _,λw' he=>oZ he hr e (λw cs hl2 hh=>?_) (by omega)⟩
  ·show(do pure (Next.value (<-Instr.indexAt T (a.eval x) (a.eval y)))).run P w=_
   rw[e,h2,Sem.run_bind]
   have:=iR ht (b:=b) (off:=o') (m:=(q:Int)) (by omega) (by omega) w
   rw[Int.toNat_natCast]at this
   rw[this]
   rfl
  ·have:=vw (d0:=d0) q rfl (by rw[List.length_take,List.length_drop]; omega) w cs hh
   rwa [yx hq]at this
theorem hS (n:Nat) (d0:α) (h:Has ms G i x (cZ N true (pG sz F ((l.drop o).take n))):=by exact hs) (hl:o+n<=l.length:=by omega) (hp:Post G i (ax sz true n λk=>F (l.getD (o+k) d0)):=by exact pt rfl) (hN:N=n*sz:=by exact rfl) (hm:n<=1000000:=by decide) (ht:zy P T n sz=true:=by kernel_rfl):OpOk P ops ms c V A G i ⟨some d,.slice T x none none none,ty,pos,au,none⟩:=
 eC rfl rfl rfl rfl h hp λρ w h1=>by
  obtain⟨b,o',cs,e,pJ,hc,hv⟩:=h1
  refine⟨.slice (some ⟨b,o',none⟩) n n,?_,?_⟩
  ·show(do pure (Next.value (<-Instr.sliceAt T (ρ x) none none none))).run P w=_
   rw[e,Sem.run_bind,nC ht]
   rfl
  ·rintro w' ⟨b',o'',cs',e',hl',hc',hv'⟩
   rw[e]at e'
   cases e'
   refine⟨_,n,rfl,Nat.le_refl _,by unfold maxLen; omega,λ_=>⟨b,o',rfl,λk hk=>⟨(cs'.drop (k*sz)).take sz,?_,λq u hq=>?_,?_⟩⟩⟩
   ·have h1:=Nat.mul_le_mul_right sz (Nat.succ_le_of_lt hk)
    rw[Nat.succ_mul]at h1
    rw[List.length_take,List.length_drop,hl']; omega
   ·rw[List.getElem?_take]at hq
    split at hq
    ·rw[List.getElem?_drop]at hq
     have:=hc' _ _ hq
     rwa [Nat.add_assoc]
    ·cases hq
   ·have:=vw (d0:=d0) k rfl (by rw[List.length_take,List.length_drop]; omega) w' cs' hv'
    rwa [yx hk]at this
variable {p:Pred} {m s:Nat} {xv yv:Vr}
theorem Bw (hx:wg ms i s V=some xv:=by exact rfl) (hv:pL i V=some yv:=by exact rfl) (h1:Has ms G i (.tmp s) p:=by exact hs) (hp:Post G i p:=by exact pt rfl) (bT:xv.kd=.grow m sz:=by exact rfl) (dw:xv.dead=some i:=by exact rfl) (cE:yv.kd=.grow m sz:=by exact rfl) (hT:yv.T=xv.T:=by exact rfl) (hal:(A.all λp=>p.var != yv.id||p.tag.any λj=>(ms.getD j 0).testBit i)=true:=by kernel_rfl):
  OpOk P ops ms c V A G i ⟨some d,.move (.tmp s),ty,pos,au,none⟩:=by
 obtain⟨⟨k,hk⟩,hb⟩:=dF hv
 obtain⟨⟨k1,sE⟩,jx,ho⟩:=fS hx
 exact vm k1 sE jx ho bT dw k hk hb cE hT hal h1 hp
theorem zz (hx:wg ms i s V=some xv:=by exact rfl) (hv:pL i V=some yv:=by exact rfl) (h1:Has ms G i (.tmp s) p:=by exact hs) (hp:Post G i p:=by exact pt rfl) (bT:xv.kd=.grow m sz:=by exact rfl) (dw:xv.dead=some i:=by exact rfl) (cE:yv.kd=.grow m sz:=by exact rfl) (hT:yv.T=xv.T:=by exact rfl) (hal:(A.all λp=>p.var != yv.id||p.tag.any λj=>(ms.getD j 0).testBit i)=true:=by kernel_rfl):
  OpOk P ops ms c V A G i ⟨some d,.assign (.tmp s),ty,pos,au,none⟩:=by
 obtain⟨⟨k,hk⟩,hb⟩:=dF hv
 obtain⟨⟨k1,sE⟩,jx,ho⟩:=fS hx
 exact qp k1 sE jx ho bT dw k hk hb cE hT hal h1 hp
theorem bh {ops:Array Oper} {o:Oper} {V V1 V2:List Vr} {G G1 G2:List aI} (nv:List Vr) (A1:List Al) (ne:List aI) (hV:mI nv V V1) (hG:gg ne G G1) (hs:OpOk P #[o] [0] c V1 A1 G1 0 o) (kV:cR V1 V2) (kG:aj G1 G2) (hn:fL nv A1 ne=true:=by kernel_rfl) (hwf:mC c.N [o] V1 A1 G1=true:=by kernel_rfl) (hg:o.guard=none:=by exact rfl):∀a w,Inv c V [] G none_ a w->aU P ops o a w (Inv c V2 [] G2 none_):=λa w h=>by
 refine .of hg ?_
 have:=hs none_ a w (dK h hV hG hn) gW (nH hwf rfl)
 unfold aU at this
 rw[if_pos (by simp[Region.wanted,hg])]at this
 refine this.mono λa' w' h'=>?_
 obtain⟨β,h'⟩:=h'
 exact eM hwf kV kG ⟨β,h'.congr (dR hwf) λj hj=>by
  have:j=0:=by simpa using hj
  subst this
  rfl⟩
end
end Wx
