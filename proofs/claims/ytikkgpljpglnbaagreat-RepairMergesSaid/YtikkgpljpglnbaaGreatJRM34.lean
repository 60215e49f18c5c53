import Derived.Test.YtikkgpljpglnbaaGreatJRM31
namespace Wx
open Go Go.RowKit
set_option linter.unusedVariables false
section
variable {α:Type} {sz:Nat} {F:α->Pred} {d0:α} {l:List α}
def Ho (sz:Nat) (F:α->Pred) (x:α):Fd:=⟨true,sz,F x⟩
def pG (sz:Nat) (F:α->Pred) (l:List α):Pred:=pS (l.map (Ho sz F))
theorem C6:∀{l:List α} {w:World} {cs:List Value},aD (l.map (Ho sz F)) w cs->cs.length=l.length*sz
 |[],_,_,h=>by rw[show _=[]from h,List.length_nil,List.length_nil,Nat.zero_mul]
 |_::l,_,cs,⟨h1,_,h3⟩=>by
  have:=C6 h3
  have h1:sz<=cs.length:=h1
  have:cs.length-sz=l.length*sz:=by rw[<-List.length_drop]; exact this
  rw[List.length_cons,Nat.succ_mul]; omega
theorem zW:∀{l:List α} {w:World} {cs:List Value} (q:Nat),aD (l.map (Ho sz F)) w cs->aD ((l.drop q).map (Ho sz F)) w (cs.drop (q*sz))
 |l,_,_,0,h=>by rw[Nat.zero_mul,List.drop_zero,List.drop_zero]; exact h
 |[],_,_,_+1,h=>by rw[show _=[]from h,List.drop_nil,List.drop_nil]; rfl
 |_::_,_,_,q+1,⟨_,_,h3⟩=>by
  have:=zW q h3
  rw[List.drop_drop,show(Ho sz F _).n+q*sz=(q+1)*sz from(show sz+q*sz=(q+1)*sz by rw[Nat.succ_mul,Nat.add_comm])]at this
  exact this
theorem zX:∀{l:List α} {w:World} {cs:List Value} (q:Nat),aD (l.map (Ho sz F)) w cs->aD ((l.take q).map (Ho sz F)) w (cs.take (q*sz))
 |l,_,_,0,_=>by rw[Nat.zero_mul,List.take_zero,List.take_zero]; rfl
 |[],_,_,_+1,h=>by rw[show _=[]from h,List.take_nil,List.take_nil]; rfl
 |_::_,w,cs,q+1,⟨h1,h2,h3⟩=>by
  have h1:sz<=cs.length:=h1
  have hq:(q+1)*sz=q*sz+sz:=Nat.succ_mul q sz
  refine⟨?_,?_,?_⟩
  ·show sz<=(cs.take ((q+1)*sz)).length; rw[List.length_take]; omega
  ·show F _ w (aq true ((cs.take ((q+1)*sz)).take sz)); rw[List.take_take,Nat.min_eq_left (by omega)]; exact h2
  ·show aD _ w ((cs.take ((q+1)*sz)).drop sz); rw[List.drop_take,show(q+1)*sz-sz=q*sz by omega]; exact zX q h3
theorem Js {x:α} {w:World} {ds:List Value} (hl:ds.length=sz):aD ([x].map (Ho sz F)) w ds↔F x w (aq true ds):=by
 refine⟨λ⟨_,h2,_⟩=>?_,λh=>⟨by show sz<=_; omega,?_,List.drop_eq_nil_iff.2 (by show _<=sz; omega)⟩⟩
 ·have h2:F x w (aq true (ds.take sz)):=h2
  rwa [List.take_of_length_le (by omega)]at h2
 ·show F x w (aq true (ds.take sz))
  rwa [List.take_of_length_le (by omega)]
theorem OG {q:Nat} (h:q<l.length):(l.drop q).take 1=[l.getD q d0]:=by
 rw[List.drop_eq_getElem_cons h,List.take_succ_cons,List.take_zero,List.getD_eq_getElem?_getD,List.getElem?_eq_getElem h]; rfl
variable {off:Nat}
theorem D1 (q m:Nat) (ho:off=q*sz):∀w cs,pG sz F l w (aq true cs)->pG sz F ((l.drop q).take m) w (aq true ((cs.drop off).take (m*sz))):=by
 rintro w cs ⟨ds,e,h⟩
 have:=bU (show aq true cs=aq true ds from e)
 subst this ho
 exact⟨_,rfl,zX m (zW q h)⟩
theorem yT (q:Nat) (ho:off=q*sz) (hq:q<l.length):∀w cs,pG sz F l w (aq true cs)->F (l.getD q d0) w (aq true ((cs.drop off).take sz)):=by
 intro w cs h
 obtain⟨ds,e,h⟩:=D1 q 1 ho w cs h
 rw[OG hq]at h
 have e:=bU (show aq true _=aq true ds from e)
 have hl:=C6 h
 rw[Nat.one_mul]at e
 rw[e]
 exact(Js (by rw[hl,List.length_singleton,Nat.one_mul])).1 h
end
section
variable {P:Program} {ops:Array Oper} {ms:List Nat} {c:cF} {V:List Vr} {A:List Al} {G:List aQ} {i:Nat}{d:Nat} {x y:Operand} {ty:TypeId} {pos:String} {aI:Array Edge} {α:Type} {F:α->Pred} {l:List α}{S f sz N:Nat}
theorem hW (q m:Nat) (h:Has ms G i x (cZ N true (pG sz F l)):=by exact hs) (hle:q*sz+m*sz<=N:=by decide) (hp:Post G i (cZ (m*sz) true (pG sz F ((l.drop q).take m))):=by exact pt rfl) (hf:∀b o w,(Instr.fieldAt S (.pointer (some ⟨b,o,none⟩)) f).run P w=.ok (.pointer (some ⟨b,o+q*sz,none⟩)) w:=by exactλ_ _ _=>by kernel_rfl)
  (hA:(A.all λq=>q.tag != some i)=true:=by kernel_rfl):OpOk P ops ms c V A G i ⟨some d,.fieldAddr S x f,ty,pos,aI,none⟩:=
 bX rfl rfl rfl (.inr hA) hp λL β a w hI hd=>by
  have hr:=h.spec hI hd
  obtain⟨b,o,cs,e,_⟩:=hr.out
  refine⟨.pointer (some ⟨b,o+q*sz,none⟩),w,?_,Below.refl _ _,λw' he=>rG he hr e (λw cs hl=>D1 q m rfl w cs) hle⟩
  show(do pure (Next.value (<-Instr.fieldAt S (a.eval x) f))).run P w=_
  rw[e,Sem.run_bind,hf]
  rfl
theorem hQ (q:Nat) (d0:α) (h:Has ms G i x (cZ N true (pG sz F l)):=by exact hs) (hl:q<l.length:=by omega) (hle:q*sz+sz<=N:=by decide) (hp:Post G i (cZ sz true (F (l.getD q d0))):=by exact pt rfl) (hf:∀b o w,(Instr.fieldAt S (.pointer (some ⟨b,o,none⟩)) f).run P w=.ok (.pointer (some ⟨b,o+q*sz,none⟩)) w:=by exactλ_ _ _=>by kernel_rfl)
  (hA:(A.all λq=>q.tag != some i)=true:=by kernel_rfl):OpOk P ops ms c V A G i ⟨some d,.fieldAddr S x f,ty,pos,aI,none⟩:=
 bX rfl rfl rfl (.inr hA) hp λL β a w hI hd=>by
  have hr:=h.spec hI hd
  obtain⟨b,o,cs,e,_⟩:=hr.out
  refine⟨.pointer (some ⟨b,o+q*sz,none⟩),w,?_,Below.refl _ _,λw' he=>rG he hr e (λw cs hl2=>yT q rfl hl w cs) hle⟩
  show(do pure (Next.value (<-Instr.fieldAt S (a.eval x) f))).run P w=_
  rw[e,Sem.run_bind,hf]
  rfl
variable {o n:Nat}
theorem Hq {l:List α} {q:Nat} {d0:α} (hq:q<n):((l.drop o).take n).getD q d0=l.getD (o+q) d0:=by
 rw[List.getD_eq_getElem?_getD,List.getD_eq_getElem?_getD,List.getElem?_take,if_pos hq,List.getElem?_drop]
variable {T:TypeId}
theorem hI' (n q:Nat) (d0:α) (h:Has ms G i x (cZ N true (pG sz F ((l.drop o).take n))):=by exact hs) (hy:Has ms G i y (pI (q:Int)):=by exact(Wx.hs).imp (bL (by omega))) (hq:q<n:=by omega) (hl:o+n<=l.length:=by omega) (hp:Post G i (cZ sz true (F (l.getD (o+q) d0))):=by exact pt rfl) (hsz:N=n*sz:=by exact rfl) (ht:KF P T n sz=true:=by kernel_rfl) (hA:(A.all λq=>q.tag != some i)=true:=by kernel_rfl):
  OpOk P ops ms c V A G i ⟨some d,.indexAddr T x y,ty,pos,aI,none⟩:=
 bX rfl rfl rfl (.inr hA) hp λL β a w hI hd=>by
  have hr:=h.spec hI hd
  have h2:a.eval y=.int .i64 (q:Int):=(hy.spec hI hd).out
  obtain⟨b,o',cs,e,_⟩:=hr.out
  have h1:=Nat.mul_le_mul_right sz (Nat.succ_le_of_lt hq)
  rw[Nat.succ_mul]at h1
  refine⟨.pointer (some ⟨b,o'+q*sz,none⟩),w,?_,Below.refl _ _,λw' he=>rG he hr e (λw cs hl2 hh=>?_) (by omega)⟩
  ·show(do pure (Next.value (<-Instr.indexAt T (a.eval x) (a.eval y)))).run P w=_
   rw[e,h2,Sem.run_bind]
   have:=uG ht (b:=b) (off:=o') (m:=(q:Int)) (by omega) (by omega) w
   rw[Int.toNat_natCast]at this
   rw[this]
   rfl
  ·have:=yT (d0:=d0) q rfl (by rw[List.length_take,List.length_drop]; omega) w cs hh
   rwa [Hq hq]at this
theorem hS (n:Nat) (d0:α) (h:Has ms G i x (cZ N true (pG sz F ((l.drop o).take n))):=by exact hs) (hl:o+n<=l.length:=by omega) (hp:Post G i (bz sz true n λk=>F (l.getD (o+k) d0)):=by exact pt rfl) (hN:N=n*sz:=by exact rfl) (hm:n<=1000000:=by decide) (ht:KF P T n sz=true:=by kernel_rfl):OpOk P ops ms c V A G i ⟨some d,.slice T x none none none,ty,pos,aI,none⟩:=
 jd rfl rfl rfl rfl h hp λρ w h1=>by
  obtain⟨b,o',cs,e,Aa,hc,hv⟩:=h1
  refine⟨.slice (some ⟨b,o',none⟩) n n,?_,?_⟩
  ·show(do pure (Next.value (<-Instr.sliceAt T (ρ x) none none none))).run P w=_
   rw[e,Sem.run_bind,uH ht]
   rfl
  ·rintro w' ⟨b',o'',cs',e',hl',hc',hv'⟩
   rw[e]at e'
   cases e'
   refine⟨_,n,rfl,Nat.le_refl _,by unfold maxLen; omega,λ_=>⟨b,o',rfl,λk hk=>⟨(cs'.drop (k*sz)).take sz,?_,λq u hq=>?_,?_⟩⟩⟩
   ·have h1:=Nat.mul_le_mul_right sz (Nat.succ_le_of_lt hk)
    rw[Nat.succ_mul]at h1
    rw[List.length_take,List.length_drop,hl']; omega
   ·rw[List.getElem?_take]at hq
    split at hq
    ·rw[List.getElem?_drop]at hq
     have:=hc' _ _ hq
     rwa [Nat.add_assoc]
    ·cases hq
   ·have:=yT (d0:=d0) k rfl (by rw[List.length_take,List.length_drop]; omega) w' cs' hv'
    rwa [Hq hk]at this
variable {tx:TypeId} {yv:Vr} {e:Nat->α}
theorem QT (L:List α) (d0:α) (hF:∀x,Fits sz true (F x)) (he:∀k,k<n->e k=L.getD k d0:=by exactλ_ _=>rfl) (hv:AY i V=some yv:=by exact rfl) (h1:Has ms G i x uy:=by exact hs) (h2:Has ms G i y (bz sz true n λk=>F (e k)):=by exact hs) (hp:Post G i (bz sz true n λk=>F (L.getD k d0)):=by exact pt rfl) (iW:yv.kd=.grow n sz:=by exact rfl) (hn:0<n:=by decide) (hmax:n<=1073741824:=by decide)
  (ht:xN P T tx yv.T sz=true:=by kernel_rfl) (eB:(A.all λp=>p.var != yv.id||p.tag.any λj=>(ms.getD j 0).testBit i)=true:=by kernel_rfl):OpOk P ops ms c V A G i ⟨some d,.call ⟨.builtin .append,#[x,y],#[T,tx]⟩,ty,pos,aI,none⟩:=by
 obtain⟨⟨k,hk⟩,hb⟩:=gP hv
 exact yN k hk hb iW rfl eB h1 h2 (jA ht) (λh=>by cases h) (λ_ _=>hF _) hn hmax (hp.down (xg λk hk w v h=>by rw[<-he k hk]; exact h))
variable {m s:Nat} {xv:Vr}
theorem Sh (L:List α) (d0:α) (hF:∀x,Fits sz true (F x)) (he:∀k,k<n->e k=L.getD (m+k) d0:=by exactλ_ _=>rfl) (hx:KA ms i s V=some xv:=by exact rfl) (hv:AY i V=some yv:=by exact rfl) (h1:Has ms G i (.tmp s) (bz sz true m λk=>F (L.getD k d0)):=by exact hs) (h2:Has ms G i y (bz sz true n λk=>F (e k)):=by exact hs) (hp:Post G i (bz sz true (m+n) λk=>F (L.getD k d0)):=by exact pt rfl) (bD:xv.kd=.grow m sz:=by exact rfl) (me:xv.dead=some i:=by exact rfl) (iW:yv.kd=.grow (m+n) sz:=by exact rfl) (hT:xv.T=yv.T:=by exact rfl) (hmax:m+n<=1073741824:=by first|decide|omega)
  (ht:xN P T tx yv.T sz=true:=by kernel_rfl) (kL:(V.all λz=>z.dead != some i||z.id==xv.id)=true:=by kernel_rfl) (eB:(A.all λp=>p.var != yv.id||p.tag.any λj=>(ms.getD j 0).testBit i)=true:=by kernel_rfl):OpOk P ops ms c V A G i ⟨some d,.call ⟨.builtin .append,#[.tmp s,y],#[T,tx]⟩,ty,pos,aI,none⟩:=by
 obtain⟨⟨k,hk⟩,hb⟩:=gP hv
 obtain⟨⟨k1,nk⟩,yu,ho⟩:=pL hx
 refine BO k1 nk yu ho bD me k hk hb iW hT rfl kL eB h1 h2 (jA ht) (λh=>by cases h) (λ_ _=>hF _) (λ_ _=>hF _) hmax (hp.down (xg λk hk w v h=>?_))
 by_cases hkm:k<m
 ·rwa [if_pos hkm]at h
 ·rw[if_neg hkm,he (k-m) (by omega),show m+(k-m)=k by omega]at h
  exact h
theorem Si {p:Pred} (hx:KA ms i s V=some xv:=by exact rfl) (hv:AY i V=some yv:=by exact rfl) (h1:Has ms G i (.tmp s) p:=by exact hs) (hp:Post G i p:=by exact pt rfl) (bD:xv.kd=.grow m sz:=by exact rfl) (me:xv.dead=some i:=by exact rfl) (iW:yv.kd=.grow m sz:=by exact rfl) (hT:yv.T=xv.T:=by exact rfl) (eB:(A.all λp=>p.var != yv.id||p.tag.any λj=>(ms.getD j 0).testBit i)=true:=by kernel_rfl):
  OpOk P ops ms c V A G i ⟨some d,.assign (.tmp s),ty,pos,aI,none⟩:=by
 obtain⟨⟨k,hk⟩,hb⟩:=gP hv
 obtain⟨⟨k1,nk⟩,yu,ho⟩:=pL hx
 exact yO k1 nk yu ho bD me k hk hb iW hT eB h1 hp
theorem RR {ops:Array Oper} {o:Oper} {V V1 V2:List Vr} {G G1 G2:List aQ} (nv:List Vr) (A1:List Al) (ne:List aQ) (hV:xD nv V V1) (hG:kP ne G G1) (hs:OpOk P #[o] [0] c V1 A1 G1 0 o) (kV:eE V1 V2) (kG:aA G1 G2) (hn:kM nv A1 ne=true:=by kernel_rfl) (hwf:pM c.N [o] V1 A1 G1=true:=by kernel_rfl) (hg:o.guard=none:=by exact rfl):∀a w,Inv c V [] G none_ a w->bR P ops o a w (Inv c V2 [] G2 none_):=λa w h=>by
 refine .of hg ?_
 have:=hs none_ a w (iB h hV hG hn) iS (nQ hwf rfl)
 unfold bR at this
 rw[if_pos (by simp[Region.wanted,hg])]at this
 refine this.mono λa' w' h'=>?_
 obtain⟨β,h'⟩:=h'
 exact jR hwf kV kG ⟨β,h'.congr (eU hwf) λj hj=>by
  have:j=0:=by simpa using hj
  subst this
  rfl⟩
end
end Wx

namespace Wx
open Go Go.RowKit
set_option linter.unusedVariables false
def E6 (sz n:Nat) (ag:Bool) (f:Nat->Pred):Pred:=λw v=>∃cs:List Value,v=aq true cs/\∀q,q<n->f q w (aq ag ((cs.drop (q*sz)).take sz))
theorem bQ {sz n:Nat} {ag:Bool} {f:Nat->Pred} (h:∀q,av (f q)):av (E6 sz n ag f):=λM w _ hM ⟨cs,e,hc⟩ w' he=>⟨cs,e,λq hq=>h q M w _ hM (hc q hq) w' he⟩
def Fg (sz n:Nat) (ag:Bool) (f:Nat->Pred) (w:World) (e:Ending) (w':World):Prop:=∃b cap,e=.returned (.slice (some ⟨b,0,none⟩) n cap)/\Below w.heap.size w w'/\w.heap.size<=b/\(n<=cap/\cap<=maxLen)/\One b (cap*sz) (E6 sz n ag f) w'
section
variable {P:Program} {c:cF} {V:List Vr} {A:List Al} {G:List aQ} {a:Act} {w:World} {β:Nat->Nat->Prop} {x y z:Operand} {d:Nat} {ty:TypeId} {pos:String} {aI:Array Edge}{n sz:Nat} {ag:Bool}
theorem OA {fn:Func} {id s n0:Nat} {w0:World} {N:Nat} {M:Nat->Nat->Prop} {T:TypeId} {m':Nat} {agg:Bool} {f:Nat->Pred} {p0:Rel} {st:List (Nat×Rel)} (hI:Inv ⟨N,w0,M,λ_=>False⟩ V [] G none_ a w) (hr:fn.results=#[.tmp s]) (hk:V[n0]?=some ⟨id,s,none,none,.grow n sz,T,m',ag,p0,st⟩) (hn:0<n) {k:Nat} (hg:G[k]?=some ⟨none,none,s,bz sz agg n f⟩):bodyPost P fn (Fg sz n agg f w0) .ret a w:=by
 obtain⟨β,hI⟩:=hI
 obtain⟨b,cap,cur,h1,h2,h3,h4,h5,h6,h7,h8⟩:=yf hI hk hn hg
 refine gG hI (v:=sl a s) ?_ ⟨b,cap,by rw[h1],hI.below.below (λ_ h=>h),h2,⟨h5,h6⟩,cur,T,h3,h4,h7,cur,rfl,h8⟩
 rw[cR,hr]
 simp[lJ,sl]
variable {b:Nat} {v:Value} {w':World}
theorem aT.tR {R:(Nat->Prop)->World->Prop} (h:aT c V [] G none_ β a w) (hb:Below w.heap.size w w') (hB:w.heap.size<=b) (hlt:b<w'.heap.size) (hno:∀o u,w'.cell? ⟨b,o,none⟩=some u->fq u) (hR:∀M,cQ M w'->aL (minus M (·=b)) (R (·=b)) w') (hd:d<c.N)
  (hV:(V.all λy=>(y.slot != d&&y.id != d)&&(y.born.isNone&&y.dead.isNone))=true) (hG:(G.all λe=>e.slot != d)=true):
  Inv c (dc d d (λB w _=>R B w)::V) [] (⟨none,none,d,bg v⟩::G) none_ (a.put (some d) v) w':=by
 have hV:∀y,y∈V->(y.slot≠d/\y.id≠d)/\live none_ y=true:=λy hy=>by
  rw[List.all_eq_true]at hV
  have:=hV y hy
  simp only[Bool.and_eq_true,bne_iff_ne]at this
  refine⟨this.1,?_⟩
  unfold live
  cases hb:y.born with
  |some j=>rw[hb]at this; cases this.2.1
  |none=>cases hd:y.dead with
   |some j=>rw[hd]at this; cases this.2.2
   |none=>rfl
 have hG:∀e,e∈G->e.slot≠d:=λe he=>by
  rw[List.all_eq_true]at hG
  simpa using hG e he
 let β':Nat->Nat->Prop:=λs=>if s=d then(·=b)else β s
 have hβ:∀y,y∈V->β' y.id=β y.id:=λy hy=>if_neg (hV y hy).1.2
 have Dp:β' d=(·=b):=if_pos rfl
 have e3:Ext (own c V none_ β) w w':=Ext.bH hb
 have hown:∀k j,k<w.heap.size->own c (dc d d (λB w _=>R B w)::V) none_ β' k j->own c V none_ β k j:=by
  rintro k j hk (h1|⟨y,hy,h1,h2,h3⟩)
  ·exact .inl h1
  ·rcases List.mem_cons.1 hy with rfl|hy
   ·have h2:β' d k:=h2
    rw[Dp]at h2
    have h2:k=b:=h2
    omega
   ·rw[hβ y hy]at h2
    exact .inr ⟨y,hy,h1,h2,h3⟩
 have jL:cQ (own c (dc d d (λB w _=>R B w)::V) none_ β') w':=by
  rintro k j hk
  rcases Nat.lt_or_ge k w.heap.size with h'|h'
  ·obtain⟨h1,h2⟩:=aS h k j (hown k j h' hk)
   refine⟨Nat.lt_of_lt_of_le h1 hb.size,λu hu=>h2 u ?_⟩
   rw[World.cell?_of_block (w:=w) (a:=⟨k,j,none⟩) (hb.block k h')]at hu
   exact hu
  ·rcases hk with h1|⟨y,hy,h1,h2,h3⟩
   ·exact absurd (ux h (.inl h1)) (by omega)
   ·rcases List.mem_cons.1 hy with rfl|hy
    ·have h2:β' d k:=h2
     rw[Dp]at h2
     have h2:k=b:=h2
     subst h2
     exact⟨hlt,λu hu=>hno j u hu⟩
    ·rw[hβ y hy]at h2
     exact absurd (eT h hy h1 h2) (by omega)
 have sd:∀s,s≠d->sl (a.put (some d) v) s=sl a s:=λs hs=>bT λe=>hs (Option.some.inj e).symm
 refine⟨β',by rw[iE]; exact h.size,by rw[put_defers]; exact h.defers,h.below.trans (cA.bH hb),h.nJ λk hk hn=>hb.block k (Nat.lt_of_lt_of_le hk h.below.size),?_,?_,(λp hp=>by cases hp),?_⟩
 ·intro y hy _
  rcases List.mem_cons.1 hy with rfl|hy
  ·refine(aG rfl).2 ⟨λk hk=>?_,?_⟩
   ·have hk:β' d k:=hk
    rw[Dp]at hk
    have hk:k=b:=hk
    subst hk
    exact⟨.inl (Nat.le_trans h.below.size hB),hlt,λo u hu=>hno o u hu⟩
   ·show aL (minus _ (β' d)) (λw=>R (β' d) w) w'
    rw[Dp]
    exact hR _ jL
  ·have MI:=(hV y hy).2
   refine(h.var y hy MI).keep (sd _ (hV y hy).1.1) (hβ y hy) (λg hg=>hb.block g (eT h hy MI hg)) hb.size (λF hF=>jC e3 hown hF) (λF hF=>?_) rfl
   refine jC (M:=minus (own c V none_ β) (β y.id)) (Ext.bH hb) ?_ hF
   rintro k j hk ⟨h1,h2⟩
   exact⟨hown k j hk h1,h2⟩
 ·intro y y' g hy hy' _ _ hne
  rcases List.mem_cons.1 hy with rfl|hy<;>rcases List.mem_cons.1 hy' with rfl|hy'
  ·exact absurd rfl hne
  ·intro h1 h2
   have h1:β' d g:=h1
   rw[Dp]at h1
   rw[hβ y' hy']at h2
   have h1:g=b:=h1
   exact absurd (eT h hy' (hV y' hy').2 h2) (by omega)
  ·intro h1 h2
   have h2:β' d g:=h2
   rw[Dp]at h2
   rw[hβ y hy]at h1
   have h2:g=b:=h2
   exact absurd (eT h hy (hV y hy).2 h1) (by omega)
  ·rw[hβ y hy,hβ y' hy']
   exact h.apart y y' g hy hy' (hV y hy).2 (hV y' hy').2 hne
 ·intro e he ho hf
  rcases List.mem_cons.1 he with rfl|he
  ·refineλw'' _=>?_
   show sl (a.put (some d) v) d=v
   exact gy (by rw[h.size]; exact hd)
  ·have:=h.gD e he ho hf
   show aL _ (λw=>e.p w (sl (a.put (some d) v) e.slot)) w'
   rw[sd _ (hG e he)]
   exact jC e3 hown this
theorem aT.Ja {q:Pred} (h:aT c V [] G none_ β a w) (hb:Below w.heap.size w w') (hB:w.heap.size<=b) (hO:One b n q w') (hq:av q) (hd:d<c.N)
  (hV:(V.all λy=>(y.slot != d&&y.id != d)&&(y.born.isNone&&y.dead.isNone))=true) (hG:(G.all λe=>e.slot != d)=true):
  Inv c (cg d b n q::V) [] (⟨none,none,d,bg v⟩::G) none_ (a.put (some d) v) w':=
 h.tR (R:=λB w=>(∀k,B k↔k=b)/\One b n q w) hb hB hO.lt hO.Iv (λM hM=>λw'' he=>⟨λ_=>Iff.rfl,hO.box (B:=(·=b)) rfl hq hM w'' he⟩) hd hV hG
variable {f:FuncId} {ts:Array TypeId} {ops:Array Oper} {p1 q1:Pred} {g:Nat->Pred} {φ:Prop}
theorem zg (gB:φ->∀(M:Nat->Nat->Prop) w v1,cQ M w->aL M (λw=>p1 w v1) w->Calls P f #[v1] w (Fg sz n ag g w)) (hφ:φ) (hg:∀q,av (g q)) (h1:Has [0] G 0 x q1:=by exact hs) (c1:∀w v,q1 w v->p1 w v:=by exactλ_ _ h=>h) (hf:aJ P f:=by exactλ_ _=>by kernel_rfl) (hd:decide (d<c.N)=true:=by kernel_rfl)
  (hV:(V.all λy=>(y.slot != d&&y.id != d)&&(y.born.isNone&&y.dead.isNone))=true:=by kernel_rfl) (hG:(G.all λe=>e.slot != d)=true:=by kernel_rfl):∀a w,Inv c V [] G none_ a w ->
  bR P ops ⟨some d,.call ⟨.value (.func f),#[x],ts⟩,ty,pos,aI,none⟩ a w (λa w=>∃b cap,(n<=cap/\cap<=maxLen)/\Inv c (cg d b (cap*sz) (E6 sz n ag g)::V) [] (⟨none,none,d,bg (.slice (some ⟨b,0,none⟩) n cap)⟩::G) none_ a w):=by
 rintro a w ⟨β,hI⟩
 refine .of rfl (kB hf (Calls.mono (by
  rw[show(#[x]:Array Operand).map a.eval=#[a.eval x] by simp]
  exact gB hφ _ w _ (aS hI) ((h1.spec hI iS).imp λw=>c1 w _)) ?_))
 rintro e w' ⟨b,cap,rfl,hb,hrb,hc,ho⟩
 exact⟨_,rfl,b,cap,hc,hI.Ja hb hrb ho (bQ hg) (of_decide_eq_true hd) hV hG⟩
theorem Q1 {e:Nat} {ty2:TypeId} {pos2:String} {aft2:Array Edge} (gB:φ->∀(M:Nat->Nat->Prop) w v1,cQ M w->aL M (λw=>p1 w v1) w->Calls P f #[v1] w (Fg sz n ag g w)) (hφ:φ) (hg:∀q,av (g q)) (h1:Has [0] G 0 x q1:=by exact hs) (c1:∀w v,q1 w v->p1 w v:=by exactλ_ _ h=>h) (hf:aJ P f:=by exactλ_ _=>by kernel_rfl) (hd:decide (d<c.N)=true:=by kernel_rfl) (he:decide (e<c.N/\d≠e)=true:=by kernel_rfl)
  (hV:(V.all λy=>(y.slot != d&&y.id != d)&&(y.born.isNone&&y.dead.isNone))=true:=by kernel_rfl) (hG:(G.all λe=>e.slot != d)=true:=by kernel_rfl) (hV2:(V.all λy=>y.slot != e)=true:=by kernel_rfl) (Bq:(G.all λy=>y.slot != e)=true:=by kernel_rfl):
  eI P ops (Inv c V [] G none_) [⟨some d,.call ⟨.value (.func f),#[x],ts⟩,ty,pos,aI,none⟩,⟨some e,.assign (.tmp d),ty2,pos2,aft2,none⟩] (λa w=>∃b cap,(n<=cap/\cap<=maxLen)/\Inv c (cg d b (cap*sz) (E6 sz n ag g)::V) [] (⟨none,none,e,bg (.slice (some ⟨b,0,none⟩) n cap)⟩::G) none_ a w):=by
 refine⟨_,zg gB hφ hg h1 c1 hf hd hV hG,_,?_,rfl⟩
 rintro a w ⟨b,cap,hc,β,hI⟩
 have he:=of_decide_eq_true he
 have hv:a.eval (.tmp d)=.slice (some ⟨b,0,none⟩) n cap:=(hI.gD ⟨none,none,d,bg _⟩ (List.mem_cons_self ..) rfl rfl).out
 have zY:=hI.tg (G':=G) λe he=>List.mem_cons_of_mem _ he
 refine .of rfl ?_
 unfold Does
 have hr:(execOp a.eval ⟨some e,.assign (.tmp d),ty2,pos2,aft2,none⟩).run P w=.ok (.value (.slice (some ⟨b,0,none⟩) n cap)) w:=by rw[<-hv]; rfl
 rw[hr]
 refine⟨b,cap,hc,β,zY.mK he.1 (λx hx=>?_) (λy hy=>by have:=List.all_eq_true.1 Bq y hy; simpa using this) λ_ _=>rfl⟩
 rcases List.mem_cons.1 hx with rfl|hx
 ·exact he.2
 ·have:=List.all_eq_true.1 hV2 x hx
  simpa using this
end
section
variable {P:Program} {ops:Array Oper} {ms:List Nat} {c:cF} {V:List Vr} {A:List Al} {G:List aQ} {i:Nat}{x y z:Operand} {d:Nat} {ty:TypeId} {pos:String} {aI:Array Edge}
end
end Wx
