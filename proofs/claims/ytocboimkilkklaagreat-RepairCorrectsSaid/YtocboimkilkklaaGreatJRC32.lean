import Derived.Test.YtocboimkilkklaaGreatCRCRep1
namespace Wx
open Go Go.RowKit Go.Proofs Go.ChangeShapes Go.WideShapes Go.ChangeAt
set_option linter.unusedVariables false
section
variable {H:Type} {enc:TypeId×Value->H} {w:World}
theorem zo.RD {P:Program} {e:TypeId} {agg:Bool} {α β:Type} {C:α->Prop} {f:α->Pred} {C':β->Prop} {f':β->Pred} (h:zo enc P w e agg C f) (g:α->β) (hC:∀a,C a->C' (g a)) (hf:∀a w v,f a w v->f' (g a) w v):zo enc P w e agg C' f':=λfuel cs x hx=>by
 obtain⟨a,h1,h2⟩:=h fuel cs x hx
 exact⟨g a,hC a h1,λw' hw=>hf a w' _ (h2 w' hw)⟩
end
theorem IA {f:FuncId} {P:Program} {args:Array Value} {W:World} (h:Calls P f args W (bE (λ_ _=>False) (pB true) W)):Calls P f args W λe w'=>e=.returned (.bool true)/\Below W.heap.size W w':=
 h.mono λe w' h=>by
  obtain⟨v,rfl,hv,hb⟩:=h
  have:v=.bool true:=hv.out
  exact⟨by rw[this],hb⟩
theorem Lj {w:World}:dz (λ_ _=>False) w:=λ_ _ h=>h.elim
end Wx

namespace Wx
open Go Go.RowKit
set_option linter.unusedVariables false
section
variable {α:Type} {sz:Nat} {F:α->Pred} {d0:α} {l:List α}
def JY (sz:Nat) (F:α->Pred) (x:α):Fd:=⟨true,sz,F x⟩
def pG (sz:Nat) (F:α->Pred) (l:List α):Pred:=pS (l.map (JY sz F))
theorem Hs:∀{l:List α} {w:World} {cs:List Value},aG (l.map (JY sz F)) w cs->cs.length=l.length*sz
 |[],_,_,h=>by rw[show _=[]from h,List.length_nil,List.length_nil,Nat.zero_mul]
 |_::l,_,cs,⟨h1,_,h3⟩=>by
  have:=Hs h3
  have h1:sz<=cs.length:=h1
  have:cs.length-sz=l.length*sz:=by rw[<-List.length_drop]; exact this
  rw[List.length_cons,Nat.succ_mul]; omega
theorem DF:∀{l:List α} {w:World} {cs:List Value} (q:Nat),aG (l.map (JY sz F)) w cs->aG ((l.drop q).map (JY sz F)) w (cs.drop (q*sz))
 |l,_,_,0,h=>by rw[Nat.zero_mul,List.drop_zero,List.drop_zero]; exact h
 |[],_,_,_+1,h=>by rw[show _=[]from h,List.drop_nil,List.drop_nil]; rfl
 |_::_,_,_,q+1,⟨_,_,h3⟩=>by
  have:=DF q h3
  rw[List.drop_drop,show(JY sz F _).n+q*sz=(q+1)*sz from(show sz+q*sz=(q+1)*sz by rw[Nat.succ_mul,Nat.add_comm])]at this
  exact this
theorem DG:∀{l:List α} {w:World} {cs:List Value} (q:Nat),aG (l.map (JY sz F)) w cs->aG ((l.take q).map (JY sz F)) w (cs.take (q*sz))
 |l,_,_,0,_=>by rw[Nat.zero_mul,List.take_zero,List.take_zero]; rfl
 |[],_,_,_+1,h=>by rw[show _=[]from h,List.take_nil,List.take_nil]; rfl
 |_::_,w,cs,q+1,⟨h1,h2,h3⟩=>by
  have h1:sz<=cs.length:=h1
  have hq:(q+1)*sz=q*sz+sz:=Nat.succ_mul q sz
  refine⟨?_,?_,?_⟩
  ·show sz<=(cs.take ((q+1)*sz)).length; rw[List.length_take]; omega
  ·show F _ w (aq true ((cs.take ((q+1)*sz)).take sz)); rw[List.take_take,Nat.min_eq_left (by omega)]; exact h2
  ·show aG _ w ((cs.take ((q+1)*sz)).drop sz); rw[List.drop_take,show(q+1)*sz-sz=q*sz by omega]; exact DG q h3
theorem N8 {x:α} {w:World} {ds:List Value} (hl:ds.length=sz):aG ([x].map (JY sz F)) w ds↔F x w (aq true ds):=by
 refine⟨λ⟨_,h2,_⟩=>?_,λh=>⟨by show sz<=_; omega,?_,List.drop_eq_nil_iff.2 (by show _<=sz; omega)⟩⟩
 ·have h2:F x w (aq true (ds.take sz)):=h2
  rwa [List.take_of_length_le (by omega)]at h2
 ·show F x w (aq true (ds.take sz))
  rwa [List.take_of_length_le (by omega)]
theorem TM {q:Nat} (h:q<l.length):(l.drop q).take 1=[l.getD q d0]:=by
 rw[List.drop_eq_getElem_cons h,List.take_succ_cons,List.take_zero,List.getD_eq_getElem?_getD,List.getElem?_eq_getElem h]; rfl
variable {off:Nat}
theorem Jf (q m:Nat) (ho:off=q*sz):∀w cs,pG sz F l w (aq true cs)->pG sz F ((l.drop q).take m) w (aq true ((cs.drop off).take (m*sz))):=by
 rintro w cs ⟨ds,e,h⟩
 have:=cT (show aq true cs=aq true ds from e)
 subst this ho
 exact⟨_,rfl,DG m (DF q h)⟩
theorem CH (q:Nat) (ho:off=q*sz) (hq:q<l.length):∀w cs,pG sz F l w (aq true cs)->F (l.getD q d0) w (aq true ((cs.drop off).take sz)):=by
 intro w cs h
 obtain⟨ds,e,h⟩:=Jf q 1 ho w cs h
 rw[TM hq]at h
 have e:=cT (show aq true _=aq true ds from e)
 have hl:=Hs h
 rw[Nat.one_mul]at e
 rw[e]
 exact(N8 (by rw[hl,List.length_singleton,Nat.one_mul])).1 h
end
abbrev Gz (i s n sz:Nat) (T:TypeId):Vr:=⟨i,s,none,none,.grow n sz,T,3,true,pv dG,[]⟩
theorem vG {V:List Vr} {i s n m sz T:Nat} (hm:n=m:=by first|rfl|omega) (h:mh i V=some (Gz i s n sz T):=by exact rfl):∃r:Rel,mh (Gz i s m sz T).id V=some ⟨(Gz i s m sz T).id,(Gz i s m sz T).slot,none,none,(Gz i s m sz T).kd,(Gz i s m sz T).T,(Gz i s m sz T).n,(Gz i s m sz T).agg,r,[]⟩/\((Gz i s m sz T).born=none/\(Gz i s m sz T).dead=none/\(Gz i s m sz T).st=[])/\∀F w v,r F w v->(Gz i s m sz T).c0 F w v:=hm▸⟨_,h,⟨rfl,rfl,rfl⟩,λ_ _ _ h=>h⟩
section
variable {P:Program} {ops:Array Oper} {ms:List Nat} {c:dS} {V:List Vr} {A:List Al} {G:List bf} {i:Nat}{d:Nat} {x y:Operand} {ty:TypeId} {pos:String} {aJ:Array Edge} {α:Type} {F:α->Pred} {l:List α}{S f sz N:Nat}
theorem hW (q m:Nat) (h:Has ms G i x (dU N true (pG sz F l)):=by exact hs) (hle:q*sz+m*sz<=N:=by decide) (hp:Post G i (dU (m*sz) true (pG sz F ((l.drop q).take m))):=by exact pt rfl) (hf:∀b o w,(Instr.fieldAt S (.pointer (some ⟨b,o,none⟩)) f).run P w=.ok (.pointer (some ⟨b,o+q*sz,none⟩)) w:=by exactλ_ _ _=>by kernel_rfl)
  (hA:(A.all λq=>q.tag != some i)=true:=by kernel_rfl):OpOk P ops ms c V A G i ⟨some d,.fieldAddr S x f,ty,pos,aJ,none⟩:=
 dg rfl rfl rfl (.inr hA) hp λL β a w hI hd=>by
  have hr:=h.spec hI hd
  obtain⟨b,o,cs,e,_⟩:=hr.out
  refine⟨.pointer (some ⟨b,o+q*sz,none⟩),w,?_,Below.refl _ _,λw' he=>qb he hr e (λw cs hl=>Jf q m rfl w cs) hle⟩
  show(do pure (Next.value (<-Instr.fieldAt S (a.eval x) f))).run P w=_
  rw[e,Sem.run_bind,hf]
  rfl
theorem hQ (q:Nat) (d0:α) (h:Has ms G i x (dU N true (pG sz F l)):=by exact hs) (hl:q<l.length:=by omega) (hle:q*sz+sz<=N:=by decide) (hp:Post G i (dU sz true (F (l.getD q d0))):=by exact pt rfl) (hf:∀b o w,(Instr.fieldAt S (.pointer (some ⟨b,o,none⟩)) f).run P w=.ok (.pointer (some ⟨b,o+q*sz,none⟩)) w:=by exactλ_ _ _=>by kernel_rfl)
  (hA:(A.all λq=>q.tag != some i)=true:=by kernel_rfl):OpOk P ops ms c V A G i ⟨some d,.fieldAddr S x f,ty,pos,aJ,none⟩:=
 dg rfl rfl rfl (.inr hA) hp λL β a w hI hd=>by
  have hr:=h.spec hI hd
  obtain⟨b,o,cs,e,_⟩:=hr.out
  refine⟨.pointer (some ⟨b,o+q*sz,none⟩),w,?_,Below.refl _ _,λw' he=>qb he hr e (λw cs hl2=>CH q rfl hl w cs) hle⟩
  show(do pure (Next.value (<-Instr.fieldAt S (a.eval x) f))).run P w=_
  rw[e,Sem.run_bind,hf]
  rfl
variable {o n:Nat}
theorem Mv {l:List α} {q:Nat} {d0:α} (hq:q<n):((l.drop o).take n).getD q d0=l.getD (o+q) d0:=by
 rw[List.getD_eq_getElem?_getD,List.getD_eq_getElem?_getD,List.getElem?_take,if_pos hq,List.getElem?_drop]
variable {T:TypeId}
theorem hI' (n q:Nat) (d0:α) (h:Has ms G i x (dU N true (pG sz F ((l.drop o).take n))):=by exact hs) (hy:Has ms G i y (pI (q:Int)):=by exact(Wx.hs).imp (dB (by omega))) (hq:q<n:=by omega) (hl:o+n<=l.length:=by omega) (hp:Post G i (dU sz true (F (l.getD (o+q) d0))):=by exact pt rfl) (hsz:N=n*sz:=by exact rfl) (ht:Nx P T n sz=true:=by kernel_rfl) (hA:(A.all λq=>q.tag != some i)=true:=by kernel_rfl):
  OpOk P ops ms c V A G i ⟨some d,.indexAddr T x y,ty,pos,aJ,none⟩:=
 dg rfl rfl rfl (.inr hA) hp λL β a w hI hd=>by
  have hr:=h.spec hI hd
  have h2:a.eval y=.int .i64 (q:Int):=(hy.spec hI hd).out
  obtain⟨b,o',cs,e,_⟩:=hr.out
  have h1:=Nat.mul_le_mul_right sz (Nat.succ_le_of_lt hq)
  rw[Nat.succ_mul]at h1
  refine⟨.pointer (some ⟨b,o'+q*sz,none⟩),w,?_,Below.refl _ _,λw' he=>qb he hr e (λw cs hl2 hh=>?_) (by omega)⟩
  ·show(do pure (Next.value (<-Instr.indexAt T (a.eval x) (a.eval y)))).run P w=_
   rw[e,h2,Sem.run_bind]
   have:=yT ht (b:=b) (off:=o') (m:=(q:Int)) (by omega) (by omega) w
   rw[Int.toNat_natCast]at this
   rw[this]
   rfl
  ·have:=CH (d0:=d0) q rfl (by rw[List.length_take,List.length_drop]; omega) w cs hh
   rwa [Mv hq]at this
theorem hS (n:Nat) (d0:α) (h:Has ms G i x (dU N true (pG sz F ((l.drop o).take n))):=by exact hs) (hl:o+n<=l.length:=by omega) (hp:Post G i (bR sz true n λk=>F (l.getD (o+k) d0)):=by exact pt rfl) (hN:N=n*sz:=by exact rfl) (hm:n<=1000000:=by decide) (ht:Nx P T n sz=true:=by kernel_rfl):OpOk P ops ms c V A G i ⟨some d,.slice T x none none none,ty,pos,aJ,none⟩:=
 lK rfl rfl rfl rfl h hp λρ w h1=>by
  obtain⟨b,o',cs,e,qy,hc,hv⟩:=h1
  refine⟨.slice (some ⟨b,o',none⟩) n n,?_,?_⟩
  ·show(do pure (Next.value (<-Instr.sliceAt T (ρ x) none none none))).run P w=_
   rw[e,Sem.run_bind,yU ht]
   rfl
  ·rintro w' ⟨b',o'',cs',e',hl',hc',hv'⟩
   rw[e]at e'
   cases e'
   refine⟨_,n,rfl,Nat.le_refl _,by unfold maxLen; omega,λ_=>⟨b,o',rfl,λk hk=>⟨(cs'.drop (k*sz)).take sz,?_,λq u hq=>?_,?_⟩⟩⟩
   ·have h1:=Nat.mul_le_mul_right sz (Nat.succ_le_of_lt hk)
    rw[Nat.succ_mul]at h1
    rw[List.length_take,List.length_drop,hl']; omega
   ·rw[List.getElem?_take]at hq
    split at hq
    ·rw[List.getElem?_drop]at hq
     have:=hc' _ _ hq
     rwa [Nat.add_assoc]
    ·cases hq
   ·have:=CH (d0:=d0) k rfl (by rw[List.length_take,List.length_drop]; omega) w' cs' hv'
    rwa [Mv hk]at this
variable {tx:TypeId} {yv:Vr} {e:Nat->α}
theorem XM (L:List α) (d0:α) (hF:∀x,Fits sz true (F x)) (he:∀k,k<n->e k=L.getD k d0:=by exactλ_ _=>rfl) (hv:BA i V=some yv:=by exact rfl) (h1:Has ms G i x yL:=by exact hs) (h2:Has ms G i y (bR sz true n λk=>F (e k)):=by exact hs) (hp:Post G i (bR sz true n λk=>F (L.getD k d0)):=by exact pt rfl) (gz:yv.kd=.grow n sz:=by exact rfl) (hn:0<n:=by decide) (hmax:n<=1073741824:=by decide)
  (ht:EJ P T tx yv.T sz=true:=by kernel_rfl) (fo:(A.all λp=>p.var != yv.id||p.tag.any λj=>(ms.getD j 0).testBit i)=true:=by kernel_rfl):OpOk P ops ms c V A G i ⟨some d,.call ⟨.builtin .append,#[x,y],#[T,tx]⟩,ty,pos,aJ,none⟩:=by
 obtain⟨⟨k,hk⟩,hb⟩:=gW hv
 exact CA k hk hb gz rfl fo h1 h2 (pn ht) (λh=>by cases h) (λ_ _=>hF _) hn hmax (hp.down (Ba λk hk w v h=>by rw[<-he k hk]; exact h))
variable {m s:Nat} {xv:Vr}
theorem Wh (L:List α) (d0:α) (hF:∀x,Fits sz true (F x)) (he:∀k,k<n->e k=L.getD (m+k) d0:=by exactλ_ _=>rfl) (hx:Nh ms i s V=some xv:=by exact rfl) (hv:BA i V=some yv:=by exact rfl) (h1:Has ms G i (.tmp s) (bR sz true m λk=>F (L.getD k d0)):=by exact hs) (h2:Has ms G i y (bR sz true n λk=>F (e k)):=by exact hs) (hp:Post G i (bR sz true (m+n) λk=>F (L.getD k d0)):=by exact pt rfl) (cI:xv.kd=.grow m sz:=by exact rfl) (kH:xv.dead=some i:=by exact rfl) (gz:yv.kd=.grow (m+n) sz:=by exact rfl) (hT:xv.T=yv.T:=by exact rfl) (hmax:m+n<=1073741824:=by first|decide|omega)
  (ht:EJ P T tx yv.T sz=true:=by kernel_rfl) (vN:(V.all λz=>z.dead != some i||z.id==xv.id)=true:=by kernel_rfl) (fo:(A.all λp=>p.var != yv.id||p.tag.any λj=>(ms.getD j 0).testBit i)=true:=by kernel_rfl):OpOk P ops ms c V A G i ⟨some d,.call ⟨.builtin .append,#[.tmp s,y],#[T,tx]⟩,ty,pos,aJ,none⟩:=by
 obtain⟨⟨k,hk⟩,hb⟩:=gW hv
 obtain⟨⟨k1,kX⟩,vP,ho⟩:=qv hx
 refine FP k1 kX vP ho cI kH k hk hb gz hT rfl vN fo h1 h2 (pn ht) (λh=>by cases h) (λ_ _=>hF _) (λ_ _=>hF _) hmax (hp.down (Ba λk hk w v h=>?_))
 by_cases hkm:k<m
 ·rwa [if_pos hkm]at h
 ·rw[if_neg hkm,he (k-m) (by omega),show m+(k-m)=k by omega]at h
  exact h
variable {p:Pred}
theorem Xf (hx:Nh ms i s V=some xv:=by exact rfl) (hv:BA i V=some yv:=by exact rfl) (h1:Has ms G i (.tmp s) p:=by exact hs) (hp:Post G i p:=by exact pt rfl) (cI:xv.kd=.grow m sz:=by exact rfl) (kH:xv.dead=some i:=by exact rfl) (gz:yv.kd=.grow m sz:=by exact rfl) (hT:yv.T=xv.T:=by exact rfl) (fo:(A.all λp=>p.var != yv.id||p.tag.any λj=>(ms.getD j 0).testBit i)=true:=by kernel_rfl):
  OpOk P ops ms c V A G i ⟨some d,.move (.tmp s),ty,pos,aJ,none⟩:=by
 obtain⟨⟨k,hk⟩,hb⟩:=gW hv
 obtain⟨⟨k1,kX⟩,vP,ho⟩:=qv hx
 exact Ja k1 kX vP ho cI kH k hk hb gz hT fo h1 hp
theorem Ts (hx:Nh ms i s V=some xv:=by exact rfl) (hv:BA i V=some yv:=by exact rfl) (h1:Has ms G i (.tmp s) p:=by exact hs) (hp:Post G i p:=by exact pt rfl) (cI:xv.kd=.grow m sz:=by exact rfl) (kH:xv.dead=some i:=by exact rfl) (gz:yv.kd=.grow m sz:=by exact rfl) (hT:yv.T=xv.T:=by exact rfl) (fo:(A.all λp=>p.var != yv.id||p.tag.any λj=>(ms.getD j 0).testBit i)=true:=by kernel_rfl):
  OpOk P ops ms c V A G i ⟨some d,.assign (.tmp s),ty,pos,aJ,none⟩:=by
 obtain⟨⟨k,hk⟩,hb⟩:=gW hv
 obtain⟨⟨k1,kX⟩,vP,ho⟩:=qv hx
 exact CB k1 kX vP ho cI kH k hk hb gz hT fo h1 hp
theorem Xg {f:Nat->Pred} (hv:BA i V=some yv:=by exact rfl) (hp:Post G i (bR sz true 0 f):=by exact pt rfl) (gz:yv.kd=.grow 0 sz:=by exact rfl) (fo:(A.all λp=>p.var != yv.id||p.tag.any λj=>(ms.getD j 0).testBit i)=true:=by kernel_rfl):
  OpOk P ops ms c V A G i ⟨some d,.assign (.const (.slice none 0 0)),ty,pos,aJ,none⟩:=by
 obtain⟨⟨k,hk⟩,hb⟩:=gW hv
 exact LC k hk hb gz fo hp
theorem Xk {ops:Array Oper} {o:Oper} {V V1 V2:List Vr} {G G1 G2:List bf} (nv:List Vr) (A1:List Al) (ne:List bf) (hV:rQ nv V V1) (hG:kA ne G G1) (hs:OpOk P #[o] [0] c V1 A1 G1 0 o) (kV:dX V1 V2) (kG:az G1 G2) (hn:iF nv A1 ne=true:=by kernel_rfl) (hwf:rM c.N [o] V1 A1 G1=true:=by kernel_rfl) (hg:o.guard=none:=by exact rfl):∀a w,Inv c V [] G none_ a w->dy P ops o a w (Inv c V2 [] G2 none_):=λa w h=>by
 refine .of hg ?_
 have:=hs none_ a w (fT h hV hG hn) ow (qT hwf rfl)
 unfold dy at this
 rw[if_pos (by simp[Region.wanted,hg])]at this
 refine this.mono λa' w' h'=>?_
 obtain⟨β,h'⟩:=h'
 exact ic hwf kV kG ⟨β,h'.congr (gl hwf) λj hj=>by
  have:j=0:=by simpa using hj
  subst this
  rfl⟩
end
end Wx
