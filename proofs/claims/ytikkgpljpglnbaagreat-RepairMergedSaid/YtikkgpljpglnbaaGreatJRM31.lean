import Derived.Test.YtikkgpljpglnbaaGreatJRM28
namespace Wx
open Go Go.RowKit
set_option linter.unusedVariables false
section
variable {α:Type} {sz:Nat} {F:α->Pred} {d0:α} {l:List α}
def Km (sz:Nat) (F:α->Pred) (x:α):Fd:=⟨true,sz,F x⟩
def pG (sz:Nat) (F:α->Pred) (l:List α):Pred:=pS (l.map (Km sz F))
theorem Fs:∀{l:List α} {w:World} {cs:List Value},aI (l.map (Km sz F)) w cs->cs.length=l.length*sz
 |[],_,_,h=>by rw[show _=[]from h,List.length_nil,List.length_nil,Nat.zero_mul]
 |_::l,_,cs,⟨h1,_,h3⟩=>by
  have:=Fs h3
  have h1:sz<=cs.length:=h1
  have:cs.length-sz=l.length*sz:=by rw[<-List.length_drop]; exact this
  rw[List.length_cons,Nat.succ_mul]; omega
theorem Cj:∀{l:List α} {w:World} {cs:List Value} (q:Nat),aI (l.map (Km sz F)) w cs->aI ((l.drop q).map (Km sz F)) w (cs.drop (q*sz))
 |l,_,_,0,h=>by rw[Nat.zero_mul,List.drop_zero,List.drop_zero]; exact h
 |[],_,_,_+1,h=>by rw[show _=[]from h,List.drop_nil,List.drop_nil]; rfl
 |_::_,_,_,q+1,⟨_,_,h3⟩=>by
  have:=Cj q h3
  rw[List.drop_drop,show(Km sz F _).n+q*sz=(q+1)*sz from(show sz+q*sz=(q+1)*sz by rw[Nat.succ_mul,Nat.add_comm])]at this
  exact this
theorem Ck:∀{l:List α} {w:World} {cs:List Value} (q:Nat),aI (l.map (Km sz F)) w cs->aI ((l.take q).map (Km sz F)) w (cs.take (q*sz))
 |l,_,_,0,_=>by rw[Nat.zero_mul,List.take_zero,List.take_zero]; rfl
 |[],_,_,_+1,h=>by rw[show _=[]from h,List.take_nil,List.take_nil]; rfl
 |_::_,w,cs,q+1,⟨h1,h2,h3⟩=>by
  have h1:sz<=cs.length:=h1
  have hq:(q+1)*sz=q*sz+sz:=Nat.succ_mul q sz
  refine⟨?_,?_,?_⟩
  ·show sz<=(cs.take ((q+1)*sz)).length; rw[List.length_take]; omega
  ·show F _ w (au true ((cs.take ((q+1)*sz)).take sz)); rw[List.take_take,Nat.min_eq_left (by omega)]; exact h2
  ·show aI _ w ((cs.take ((q+1)*sz)).drop sz); rw[List.drop_take,show(q+1)*sz-sz=q*sz by omega]; exact Ck q h3
theorem LU {x:α} {w:World} {ds:List Value} (hl:ds.length=sz):aI ([x].map (Km sz F)) w ds↔F x w (au true ds):=by
 refine⟨λ⟨_,h2,_⟩=>?_,λh=>⟨by show sz<=_; omega,?_,List.drop_eq_nil_iff.2 (by show _<=sz; omega)⟩⟩
 ·have h2:F x w (au true (ds.take sz)):=h2
  rwa [List.take_of_length_le (by omega)]at h2
 ·show F x w (au true (ds.take sz))
  rwa [List.take_of_length_le (by omega)]
theorem RA {q:Nat} (h:q<l.length):(l.drop q).take 1=[l.getD q d0]:=by
 rw[List.drop_eq_getElem_cons h,List.take_succ_cons,List.take_zero,List.getD_eq_getElem?_getD,List.getElem?_eq_getElem h]; rfl
variable {off:Nat}
theorem Gx (q m:Nat) (ho:off=q*sz):∀w cs,pG sz F l w (au true cs)->pG sz F ((l.drop q).take m) w (au true ((cs.drop off).take (m*sz))):=by
 rintro w cs ⟨ds,e,h⟩
 have:=cg (show au true cs=au true ds from e)
 subst this ho
 exact⟨_,rfl,Ck m (Cj q h)⟩
theorem Bq (q:Nat) (ho:off=q*sz) (hq:q<l.length):∀w cs,pG sz F l w (au true cs)->F (l.getD q d0) w (au true ((cs.drop off).take sz)):=by
 intro w cs h
 obtain⟨ds,e,h⟩:=Gx q 1 ho w cs h
 rw[RA hq]at h
 have e:=cg (show au true _=au true ds from e)
 have hl:=Fs h
 rw[Nat.one_mul]at e
 rw[e]
 exact(LU (by rw[hl,List.length_singleton,Nat.one_mul])).1 h
end
abbrev Gz (i s n sz:Nat) (T:TypeId):Vr:=⟨i,s,none,none,.grow n sz,T,3,true,pv iC,[]⟩
theorem vG {V:List Vr} {i s n m sz T:Nat} (hm:n=m:=by first|rfl|omega) (h:lO i V=some (Gz i s n sz T):=by exact rfl):∃r:Rel,lO (Gz i s m sz T).id V=some ⟨(Gz i s m sz T).id,(Gz i s m sz T).slot,none,none,(Gz i s m sz T).kd,(Gz i s m sz T).T,(Gz i s m sz T).n,(Gz i s m sz T).agg,r,[]⟩/\((Gz i s m sz T).born=none/\(Gz i s m sz T).dead=none/\(Gz i s m sz T).st=[])/\∀F w v,r F w v->(Gz i s m sz T).c0 F w v:=hm▸⟨_,h,⟨rfl,rfl,rfl⟩,λ_ _ _ h=>h⟩
section
variable {P:Program} {ops:Array Oper} {ms:List Nat} {c:cM} {V:List Vr} {A:List Al} {G:List aV} {i:Nat}{d:Nat} {x y:Operand} {ty:TypeId} {pos:String} {aL:Array Edge} {α:Type} {F:α->Pred} {l:List α}{S f sz N:Nat}
theorem hW (q m:Nat) (h:Has ms G i x (dD N true (pG sz F l)):=by exact hs) (hle:q*sz+m*sz<=N:=by decide) (hp:Post G i (dD (m*sz) true (pG sz F ((l.drop q).take m))):=by exact pt rfl) (hf:∀b o w,(Instr.fieldAt S (.pointer (some ⟨b,o,none⟩)) f).run P w=.ok (.pointer (some ⟨b,o+q*sz,none⟩)) w:=by exactλ_ _ _=>by kernel_rfl)
  (hA:(A.all λq=>q.tag != some i)=true:=by kernel_rfl):OpOk P ops ms c V A G i ⟨some d,.fieldAddr S x f,ty,pos,aL,none⟩:=
 cq rfl rfl rfl (.inr hA) hp λL β a w hI hd=>by
  have hr:=h.spec hI hd
  obtain⟨b,o,cs,e,_⟩:=hr.out
  refine⟨.pointer (some ⟨b,o+q*sz,none⟩),w,?_,Below.refl _ _,λw' he=>tC he hr e (λw cs hl=>Gx q m rfl w cs) hle⟩
  show(do pure (Next.value (<-Instr.fieldAt S (a.eval x) f))).run P w=_
  rw[e,Sem.run_bind,hf]
  rfl
theorem hQ (q:Nat) (d0:α) (h:Has ms G i x (dD N true (pG sz F l)):=by exact hs) (hl:q<l.length:=by omega) (hle:q*sz+sz<=N:=by decide) (hp:Post G i (dD sz true (F (l.getD q d0))):=by exact pt rfl) (hf:∀b o w,(Instr.fieldAt S (.pointer (some ⟨b,o,none⟩)) f).run P w=.ok (.pointer (some ⟨b,o+q*sz,none⟩)) w:=by exactλ_ _ _=>by kernel_rfl)
  (hA:(A.all λq=>q.tag != some i)=true:=by kernel_rfl):OpOk P ops ms c V A G i ⟨some d,.fieldAddr S x f,ty,pos,aL,none⟩:=
 cq rfl rfl rfl (.inr hA) hp λL β a w hI hd=>by
  have hr:=h.spec hI hd
  obtain⟨b,o,cs,e,_⟩:=hr.out
  refine⟨.pointer (some ⟨b,o+q*sz,none⟩),w,?_,Below.refl _ _,λw' he=>tC he hr e (λw cs hl2=>Bq q rfl hl w cs) hle⟩
  show(do pure (Next.value (<-Instr.fieldAt S (a.eval x) f))).run P w=_
  rw[e,Sem.run_bind,hf]
  rfl
variable {o n:Nat}
theorem Kn {l:List α} {q:Nat} {d0:α} (hq:q<n):((l.drop o).take n).getD q d0=l.getD (o+q) d0:=by
 rw[List.getD_eq_getElem?_getD,List.getD_eq_getElem?_getD,List.getElem?_take,if_pos hq,List.getElem?_drop]
variable {T:TypeId}
theorem hI' (n q:Nat) (d0:α) (h:Has ms G i x (dD N true (pG sz F ((l.drop o).take n))):=by exact hs) (hy:Has ms G i y (pI (q:Int)):=by exact(Wx.hs).imp (cG (by omega))) (hq:q<n:=by omega) (hl:o+n<=l.length:=by omega) (hp:Post G i (dD sz true (F (l.getD (o+q) d0))):=by exact pt rfl) (hsz:N=n*sz:=by exact rfl) (ht:Nu P T n sz=true:=by kernel_rfl) (hA:(A.all λq=>q.tag != some i)=true:=by kernel_rfl):
  OpOk P ops ms c V A G i ⟨some d,.indexAddr T x y,ty,pos,aL,none⟩:=
 cq rfl rfl rfl (.inr hA) hp λL β a w hI hd=>by
  have hr:=h.spec hI hd
  have h2:a.eval y=.int .i64 (q:Int):=(hy.spec hI hd).out
  obtain⟨b,o',cs,e,_⟩:=hr.out
  have h1:=Nat.mul_le_mul_right sz (Nat.succ_le_of_lt hq)
  rw[Nat.succ_mul]at h1
  refine⟨.pointer (some ⟨b,o'+q*sz,none⟩),w,?_,Below.refl _ _,λw' he=>tC he hr e (λw cs hl2 hh=>?_) (by omega)⟩
  ·show(do pure (Next.value (<-Instr.indexAt T (a.eval x) (a.eval y)))).run P w=_
   rw[e,h2,Sem.run_bind]
   have:=xb ht (b:=b) (off:=o') (m:=(q:Int)) (by omega) (by omega) w
   rw[Int.toNat_natCast]at this
   rw[this]
   rfl
  ·have:=Bq (d0:=d0) q rfl (by rw[List.length_take,List.length_drop]; omega) w cs hh
   rwa [Kn hq]at this
theorem hS (n:Nat) (d0:α) (h:Has ms G i x (dD N true (pG sz F ((l.drop o).take n))):=by exact hs) (hl:o+n<=l.length:=by omega) (hp:Post G i (bK sz true n λk=>F (l.getD (o+k) d0)):=by exact pt rfl) (hN:N=n*sz:=by exact rfl) (hm:n<=1000000:=by decide) (ht:Nu P T n sz=true:=by kernel_rfl):OpOk P ops ms c V A G i ⟨some d,.slice T x none none none,ty,pos,aL,none⟩:=
 iT rfl rfl rfl rfl h hp λρ w h1=>by
  obtain⟨b,o',cs,e,Cn,hc,hv⟩:=h1
  refine⟨.slice (some ⟨b,o',none⟩) n n,?_,?_⟩
  ·show(do pure (Next.value (<-Instr.sliceAt T (ρ x) none none none))).run P w=_
   rw[e,Sem.run_bind,xd ht]
   rfl
  ·rintro w' ⟨b',o'',cs',e',hl',hc',hv'⟩
   rw[e]at e'
   cases e'
   refine⟨_,n,rfl,Nat.le_refl _,by unfold maxLen; omega,λ_=>⟨b,o',rfl,λk hk=>⟨(cs'.drop (k*sz)).take sz,?_,λq u hq=>?_,?_⟩⟩⟩
   ·have h1:=Nat.mul_le_mul_right sz (Nat.succ_le_of_lt hk)
    rw[Nat.succ_mul]at h1
    rw[List.length_take,List.length_drop,hl']; omega
   ·rw[List.getElem?_take]at hq
    split at hq
    ·rw[List.getElem?_drop]at hq
     have:=hc' _ _ hq
     rwa [Nat.add_assoc]
    ·cases hq
   ·have:=Bq (d0:=d0) k rfl (by rw[List.length_take,List.length_drop]; omega) w' cs' hv'
    rwa [Kn hk]at this
variable {tx:TypeId} {yv:Vr} {e:Nat->α}
theorem TW (L:List α) (d0:α) (hF:∀x,Fits sz true (F x)) (he:∀k,k<n->e k=L.getD k d0:=by exactλ_ _=>rfl) (hv:C7 i V=some yv:=by exact rfl) (h1:Has ms G i x wP:=by exact hs) (h2:Has ms G i y (bK sz true n λk=>F (e k)):=by exact hs) (hp:Post G i (bK sz true n λk=>F (L.getD k d0)):=by exact pt rfl) (jQ:yv.kd=.grow n sz:=by exact rfl) (hn:0<n:=by decide) (hmax:n<=1073741824:=by decide)
  (ht:De P T tx yv.T sz=true:=by kernel_rfl) (fC:(A.all λp=>p.var != yv.id||p.tag.any λj=>(ms.getD j 0).testBit i)=true:=by kernel_rfl):OpOk P ops ms c V A G i ⟨some d,.call ⟨.builtin .append,#[x,y],#[T,tx]⟩,ty,pos,aL,none⟩:=by
 obtain⟨⟨k,hk⟩,hb⟩:=iZ hv
 exact Bh k hk hb jQ rfl fC h1 h2 (nI ht) (λh=>by cases h) (λ_ _=>hF _) hn hmax (hp.down (zF λk hk w v h=>by rw[<-he k hk]; exact h))
variable {m s:Nat} {xv:Vr}
theorem Vp (L:List α) (d0:α) (hF:∀x,Fits sz true (F x)) (he:∀k,k<n->e k=L.getD (m+k) d0:=by exactλ_ _=>rfl) (hx:Nk ms i s V=some xv:=by exact rfl) (hv:C7 i V=some yv:=by exact rfl) (h1:Has ms G i (.tmp s) (bK sz true m λk=>F (L.getD k d0)):=by exact hs) (h2:Has ms G i y (bK sz true n λk=>F (e k)):=by exact hs) (hp:Post G i (bK sz true (m+n) λk=>F (L.getD k d0)):=by exact pt rfl) (bS:xv.kd=.grow m sz:=by exact rfl) (nT:xv.dead=some i:=by exact rfl) (jQ:yv.kd=.grow (m+n) sz:=by exact rfl) (hT:xv.T=yv.T:=by exact rfl) (hmax:m+n<=1073741824:=by first|decide|omega)
  (ht:De P T tx yv.T sz=true:=by kernel_rfl) (nU:(V.all λz=>z.dead != some i||z.id==xv.id)=true:=by kernel_rfl) (fC:(A.all λp=>p.var != yv.id||p.tag.any λj=>(ms.getD j 0).testBit i)=true:=by kernel_rfl):OpOk P ops ms c V A G i ⟨some d,.call ⟨.builtin .append,#[.tmp s,y],#[T,tx]⟩,ty,pos,aL,none⟩:=by
 obtain⟨⟨k,hk⟩,hb⟩:=iZ hv
 obtain⟨⟨k1,nD⟩,AM,ho⟩:=rI hx
 refine DY k1 nD AM ho bS nT k hk hb jQ hT rfl nU fC h1 h2 (nI ht) (λh=>by cases h) (λ_ _=>hF _) (λ_ _=>hF _) hmax (hp.down (zF λk hk w v h=>?_))
 by_cases hkm:k<m
 ·rwa [if_pos hkm]at h
 ·rw[if_neg hkm,he (k-m) (by omega),show m+(k-m)=k by omega]at h
  exact h
theorem Vq {p:Pred} (hx:Nk ms i s V=some xv:=by exact rfl) (hv:C7 i V=some yv:=by exact rfl) (h1:Has ms G i (.tmp s) p:=by exact hs) (hp:Post G i p:=by exact pt rfl) (bS:xv.kd=.grow m sz:=by exact rfl) (nT:xv.dead=some i:=by exact rfl) (jQ:yv.kd=.grow m sz:=by exact rfl) (hT:yv.T=xv.T:=by exact rfl) (fC:(A.all λp=>p.var != yv.id||p.tag.any λj=>(ms.getD j 0).testBit i)=true:=by kernel_rfl):
  OpOk P ops ms c V A G i ⟨some d,.assign (.tmp s),ty,pos,aL,none⟩:=by
 obtain⟨⟨k,hk⟩,hb⟩:=iZ hv
 obtain⟨⟨k1,nD⟩,AM,ho⟩:=rI hx
 exact Bi k1 nD AM ho bS nT k hk hb jQ hT fC h1 hp
end
end Wx

namespace Wx
open Go Go.RowKit
set_option linter.unusedVariables false
def H6 (sz n:Nat) (ag:Bool) (f:Nat->Pred):Pred:=λw v=>∃cs:List Value,v=au true cs/\∀q,q<n->f q w (au ag ((cs.drop (q*sz)).take sz))
theorem bU {sz n:Nat} {ag:Bool} {f:Nat->Pred} (h:∀q,aA (f q)):aA (H6 sz n ag f):=λM w _ hM ⟨cs,e,hc⟩ w' he=>⟨cs,e,λq hq=>h q M w _ hM (hc q hq) w' he⟩
def Ig (sz n:Nat) (ag:Bool) (f:Nat->Pred) (w:World) (e:Ending) (w':World):Prop:=∃b cap,e=.returned (.slice (some ⟨b,0,none⟩) n cap)/\Below w.heap.size w w'/\w.heap.size<=b/\(n<=cap/\cap<=maxLen)/\One b (cap*sz) (H6 sz n ag f) w'
section
variable {P:Program} {c:cM} {V:List Vr} {A:List Al} {G:List aV} {a:Act} {w:World} {β:Nat->Nat->Prop} {x y z:Operand} {d:Nat} {ty:TypeId} {pos:String} {aL:Array Edge}{n sz:Nat} {ag:Bool}
theorem Rw {fn:Func} {id s n0:Nat} {w0:World} {N:Nat} {M:Nat->Nat->Prop} {T:TypeId} {m':Nat} {agg:Bool} {f:Nat->Pred} {p0:Rel} {st:List (Nat×Rel)} (hI:Inv ⟨N,w0,M,λ_=>False⟩ V [] G none_ a w) (hr:fn.results=#[.tmp s]) (hk:V[n0]?=some ⟨id,s,none,none,.grow n sz,T,m',ag,p0,st⟩) (hn:0<n) {k:Nat} (hg:G[k]?=some ⟨none,none,s,bK sz agg n f⟩):bodyPost P fn (Ig sz n agg f w0) .ret a w:=by
 obtain⟨β,hI⟩:=hI
 obtain⟨b,cap,cur,h1,h2,h3,h4,h5,h6,h7,h8⟩:=AE hI hk hn hg
 refine iN hI (v:=sl a s) ?_ ⟨b,cap,by rw[h1],hI.below.below (λ_ h=>h),h2,⟨h5,h6⟩,cur,T,h3,h4,h7,cur,rfl,h8⟩
 rw[dm,hr]
 simp[nw,sl]
variable {b:Nat} {v:Value} {w':World}
theorem aT.Ac {R:(Nat->Prop)->World->Prop} (h:aT c V [] G none_ β a w) (hb:Below w.heap.size w w') (hB:w.heap.size<=b) (hlt:b<w'.heap.size) (hno:∀o u,w'.cell? ⟨b,o,none⟩=some u->gv u) (hR:∀M,cR M w'->aM (minus M (·=b)) (R (·=b)) w') (hd:d<c.N)
  (hV:(V.all λy=>(y.slot != d&&y.id != d)&&(y.born.isNone&&y.dead.isNone))=true) (hG:(G.all λe=>e.slot != d)=true):
  Inv c (cN d d (λB w _=>R B w)::V) [] (⟨none,none,d,bp v⟩::G) none_ (a.put (some d) v) w':=by
 have hV:∀y,y∈V->(y.slot≠d/\y.id≠d)/\live none_ y=true:=λy hy=>by
  rw[List.all_eq_true]at hV
  have:=hV y hy
  simp only[Bool.and_eq_true,bne_iff_ne]at this
  refine⟨this.1,?_⟩
  unfold live
  cases hb:y.born with
  |some j=>rw[hb]at this; cases this.2.1
  |none=>cases hd:y.dead with
   |some j=>rw[hd]at this; cases this.2.2
   |none=>rfl
 have hG:∀e,e∈G->e.slot≠d:=λe he=>by
  rw[List.all_eq_true]at hG
  simpa using hG e he
 let β':Nat->Nat->Prop:=λs=>if s=d then(·=b)else β s
 have hβ:∀y,y∈V->β' y.id=β y.id:=λy hy=>if_neg (hV y hy).1.2
 have FN:β' d=(·=b):=if_pos rfl
 have e3:Ext (own c V none_ β) w w':=Ext.bI hb
 have hown:∀k j,k<w.heap.size->own c (cN d d (λB w _=>R B w)::V) none_ β' k j->own c V none_ β k j:=by
  rintro k j hk (h1|⟨y,hy,h1,h2,h3⟩)
  ·exact .inl h1
  ·rcases List.mem_cons.1 hy with rfl|hy
   ·have h2:β' d k:=h2
    rw[FN]at h2
    have h2:k=b:=h2
    omega
   ·rw[hβ y hy]at h2
    exact .inr ⟨y,hy,h1,h2,h3⟩
 have kE:cR (own c (cN d d (λB w _=>R B w)::V) none_ β') w':=by
  rintro k j hk
  rcases Nat.lt_or_ge k w.heap.size with h'|h'
  ·obtain⟨h1,h2⟩:=aZ h k j (hown k j h' hk)
   refine⟨Nat.lt_of_lt_of_le h1 hb.size,λu hu=>h2 u ?_⟩
   rw[World.cell?_of_block (w:=w) (a:=⟨k,j,none⟩) (hb.block k h')]at hu
   exact hu
  ·rcases hk with h1|⟨y,hy,h1,h2,h3⟩
   ·exact absurd (wO h (.inl h1)) (by omega)
   ·rcases List.mem_cons.1 hy with rfl|hy
    ·have h2:β' d k:=h2
     rw[FN]at h2
     have h2:k=b:=h2
     subst h2
     exact⟨hlt,λu hu=>hno j u hu⟩
    ·rw[hβ y hy]at h2
     exact absurd (fW h hy h1 h2) (by omega)
 have sd:∀s,s≠d->sl (a.put (some d) v) s=sl a s:=λs hs=>bZ λe=>hs (Option.some.inj e).symm
 refine⟨β',by rw[jt]; exact h.size,by rw[put_defers]; exact h.defers,h.below.trans (cz.bI hb),h.pZ λk hk hn=>hb.block k (Nat.lt_of_lt_of_le hk h.below.size),?_,?_,(λp hp=>by cases hp),?_⟩
 ·intro y hy _
  rcases List.mem_cons.1 hy with rfl|hy
  ·refine(aK rfl).2 ⟨λk hk=>?_,?_⟩
   ·have hk:β' d k:=hk
    rw[FN]at hk
    have hk:k=b:=hk
    subst hk
    exact⟨.inl (Nat.le_trans h.below.size hB),hlt,λo u hu=>hno o u hu⟩
   ·show aM (minus _ (β' d)) (λw=>R (β' d) w) w'
    rw[FN]
    exact hR _ kE
  ·have KL:=(hV y hy).2
   refine(h.var y hy KL).keep (sd _ (hV y hy).1.1) (hβ y hy) (λg hg=>hb.block g (fW h hy KL hg)) hb.size (λF hF=>kM e3 hown hF) (λF hF=>?_) rfl
   refine kM (M:=minus (own c V none_ β) (β y.id)) (Ext.bI hb) ?_ hF
   rintro k j hk ⟨h1,h2⟩
   exact⟨hown k j hk h1,h2⟩
 ·intro y y' g hy hy' _ _ hne
  rcases List.mem_cons.1 hy with rfl|hy<;>rcases List.mem_cons.1 hy' with rfl|hy'
  ·exact absurd rfl hne
  ·intro h1 h2
   have h1:β' d g:=h1
   rw[FN]at h1
   rw[hβ y' hy']at h2
   have h1:g=b:=h1
   exact absurd (fW h hy' (hV y' hy').2 h2) (by omega)
  ·intro h1 h2
   have h2:β' d g:=h2
   rw[FN]at h2
   rw[hβ y hy]at h1
   have h2:g=b:=h2
   exact absurd (fW h hy (hV y hy).2 h1) (by omega)
  ·rw[hβ y hy,hβ y' hy']
   exact h.apart y y' g hy hy' (hV y hy).2 (hV y' hy').2 hne
 ·intro e he ho hf
  rcases List.mem_cons.1 he with rfl|he
  ·refineλw'' _=>?_
   show sl (a.put (some d) v) d=v
   exact iG (by rw[h.size]; exact hd)
  ·have:=h.gY e he ho hf
   show aM _ (λw=>e.p w (sl (a.put (some d) v) e.slot)) w'
   rw[sd _ (hG e he)]
   exact kM e3 hown this
theorem aT.Lu {q:Pred} (h:aT c V [] G none_ β a w) (hb:Below w.heap.size w w') (hB:w.heap.size<=b) (hO:One b n q w') (hq:aA q) (hd:d<c.N)
  (hV:(V.all λy=>(y.slot != d&&y.id != d)&&(y.born.isNone&&y.dead.isNone))=true) (hG:(G.all λe=>e.slot != d)=true):
  Inv c (dy d b n q::V) [] (⟨none,none,d,bp v⟩::G) none_ (a.put (some d) v) w':=
 h.Ac (R:=λB w=>(∀k,B k↔k=b)/\One b n q w) hb hB hO.lt hO.KU (λM hM=>λw'' he=>⟨λ_=>Iff.rfl,hO.box (B:=(·=b)) rfl hq hM w'' he⟩) hd hV hG
variable {f:FuncId} {ts:Array TypeId} {ops:Array Oper} {p1 q1:Pred} {g:Nat->Pred} {φ:Prop}
theorem BG (gO:φ->∀(M:Nat->Nat->Prop) w v1,cR M w->aM M (λw=>p1 w v1) w->Calls P f #[v1] w (Ig sz n ag g w)) (hφ:φ) (hg:∀q,aA (g q)) (h1:Has [0] G 0 x q1:=by exact hs) (c1:∀w v,q1 w v->p1 w v:=by exactλ_ _ h=>h) (hf:aN P f:=by exactλ_ _=>by kernel_rfl) (hd:decide (d<c.N)=true:=by kernel_rfl)
  (hV:(V.all λy=>(y.slot != d&&y.id != d)&&(y.born.isNone&&y.dead.isNone))=true:=by kernel_rfl) (hG:(G.all λe=>e.slot != d)=true:=by kernel_rfl):∀a w,Inv c V [] G none_ a w ->
  cO P ops ⟨some d,.call ⟨.value (.func f),#[x],ts⟩,ty,pos,aL,none⟩ a w (λa w=>∃b cap,(n<=cap/\cap<=maxLen)/\Inv c (dy d b (cap*sz) (H6 sz n ag g)::V) [] (⟨none,none,d,bp (.slice (some ⟨b,0,none⟩) n cap)⟩::G) none_ a w):=by
 rintro a w ⟨β,hI⟩
 refine .of rfl (lX hf (Calls.mono (by
  rw[show(#[x]:Array Operand).map a.eval=#[a.eval x] by simp]
  exact gO hφ _ w _ (aZ hI) ((h1.spec hI mS).imp λw=>c1 w _)) ?_))
 rintro e w' ⟨b,cap,rfl,hb,hrb,hc,ho⟩
 exact⟨_,rfl,b,cap,hc,hI.Lu hb hrb ho (bU hg) (of_decide_eq_true hd) hV hG⟩
theorem T4 {e:Nat} {ty2:TypeId} {pos2:String} {aft2:Array Edge} (gO:φ->∀(M:Nat->Nat->Prop) w v1,cR M w->aM M (λw=>p1 w v1) w->Calls P f #[v1] w (Ig sz n ag g w)) (hφ:φ) (hg:∀q,aA (g q)) (h1:Has [0] G 0 x q1:=by exact hs) (c1:∀w v,q1 w v->p1 w v:=by exactλ_ _ h=>h) (hf:aN P f:=by exactλ_ _=>by kernel_rfl) (hd:decide (d<c.N)=true:=by kernel_rfl) (he:decide (e<c.N/\d≠e)=true:=by kernel_rfl)
  (hV:(V.all λy=>(y.slot != d&&y.id != d)&&(y.born.isNone&&y.dead.isNone))=true:=by kernel_rfl) (hG:(G.all λe=>e.slot != d)=true:=by kernel_rfl) (hV2:(V.all λy=>y.slot != e)=true:=by kernel_rfl) (Fx:(G.all λy=>y.slot != e)=true:=by kernel_rfl):
  fL P ops (Inv c V [] G none_) [⟨some d,.call ⟨.value (.func f),#[x],ts⟩,ty,pos,aL,none⟩,⟨some e,.assign (.tmp d),ty2,pos2,aft2,none⟩] (λa w=>∃b cap,(n<=cap/\cap<=maxLen)/\Inv c (dy d b (cap*sz) (H6 sz n ag g)::V) [] (⟨none,none,e,bp (.slice (some ⟨b,0,none⟩) n cap)⟩::G) none_ a w):=by
 refine⟨_,BG gO hφ hg h1 c1 hf hd hV hG,_,?_,rfl⟩
 rintro a w ⟨b,cap,hc,β,hI⟩
 have he:=of_decide_eq_true he
 have hv:a.eval (.tmp d)=.slice (some ⟨b,0,none⟩) n cap:=(hI.gY ⟨none,none,d,bp _⟩ (List.mem_cons_self ..) rfl rfl).out
 have yz:=hI.sR (G':=G) λe he=>List.mem_cons_of_mem _ he
 refine .of rfl ?_
 unfold Does
 have hr:(execOp a.eval ⟨some e,.assign (.tmp d),ty2,pos2,aft2,none⟩).run P w=.ok (.value (.slice (some ⟨b,0,none⟩) n cap)) w:=by rw[<-hv]; rfl
 rw[hr]
 refine⟨b,cap,hc,β,yz.nu he.1 (λx hx=>?_) (λy hy=>by have:=List.all_eq_true.1 Fx y hy; simpa using this) λ_ _=>rfl⟩
 rcases List.mem_cons.1 hx with rfl|hx
 ·exact he.2
 ·have:=List.all_eq_true.1 hV2 x hx
  simpa using this
end
section
variable {P:Program} {ops:Array Oper} {ms:List Nat} {c:cM} {V:List Vr} {A:List Al} {G:List aV} {i:Nat}{x y z:Operand} {d:Nat} {ty:TypeId} {pos:String} {aL:Array Edge}
end
end Wx
