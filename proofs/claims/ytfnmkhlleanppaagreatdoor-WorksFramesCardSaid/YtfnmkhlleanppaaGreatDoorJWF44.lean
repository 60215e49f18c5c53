import Derived.Test.YtfnmkhlleanppaaGreatDoorJWF37
namespace Wx
open Go Go.RowKit
section
variable {ro:Option Nat} {ds:List Deferred} {P:Program} {Q:Exit->Act->World->Prop} {c:bO} {V:List Vr} {A:List Al} {G:List aK} {a:Act} {w:World}{id:Nat} {l:List Oper}
theorem yb (ms:List Nat) (k:Nat) (zT:0<k) (hm:P.follows .mixedOrders=true) (hok:fR l.toArray=true) (od:lQ l=ms) (gr:ow ms k l.length=true) (hnd:l.all ct=true) (hkn:decide (k<=l.length)=true) (hwf:mm c.N (l.take k) V A G=true)
  (h0:Inv c V A G none_ a w) (hs:kS P l.toArray ms c V A G 0 (l.take k)) (yw:k+1=l.length) (hp:∀a w,Inv c V A G (λ_=>true) a w->∀n (K':Act->World->Prop),wpOpIn (tZ ro) n P l.toArray (λe a' w'=>∃a0,a'=gI ds a0/\Q e a0 w') k K' (gI ds a) w):
  (Code.region id l.toArray true).ww ro ds P Q a w:=by
 intro n
 let K:Nat->Act->World->Prop:=λm a w=>m=0/\Inv c V A G (λ_=>true) a w
 have hkn:=of_decide_eq_true hkn
 have gM:=kp l
 rw[od]at gM
 let J:(Nat->Bool)->Act->World->Prop:=λL a w=>fA l L/\(((∃j,j<k/\L j=false)/\Inv c V A G L a w)\/((∀j,j<k->L j=true)/\∃m,m<=l.length-k/\(∀i,k<=i->i<l.length->(L i=true↔i<k+m))/\K m a w))
 refine gB hm hok (λL a' w=>∃a,a'=gI ds a/\J L a w) ⟨a,rfl,λi o _ h=>(by cases h),.inl ⟨⟨0,zT,rfl⟩,?_⟩⟩ ?_ ?_
 ·obtain⟨β,hβ⟩:=h0
  exact⟨β,hβ.draws⟩
 ·rintro i o hi L _ w ⟨a,rfl,hc,hJ⟩ hno hpre
  ··have sk:i<l.length:=by
     rcases Nat.lt_or_ge i l.length with h'|h'
     ·exact h'
     ·rw[List.getElem?_eq_none h']at hi; cases hi
    have Da:l.toArray[i]?=some o:=by simpa using hi
    have wI:ct o=true:=List.all_eq_true.1 hnd o (List.mem_of_getElem? hi)
    have pW:∀j,(ms.getD i 0).testBit j=true->L j=true:=λj hj=>gM.2 L hc i o hi hpre j hj
    have mP:fA l (upd L i):=by
     intro k' ok gv hL j hj
     by_cases qQ:k'=i
     ·subst qQ
      rw[hi]at gv
      injection gv with gv
      subst gv
      have:=hpre j hj
      unfold upd
      split
      ·rfl
      ·exact this
     ·have:=hc k' ok gv (qD hL qQ) j hj
      unfold upd
      split
      ·rfl
      ·exact this
    rcases hJ with⟨⟨j0,F0,ue⟩,hI⟩|⟨cE,m,hmn,vS,zN⟩
    ·have uj:i<k:=by
      rcases Nat.lt_or_ge i k with h'|h'
      ·exact h'
      ·have:=pW j0 (dD gr sk h' (by omega))
       rw[ue]at this; cases this
     have mQ:gN ms i L:=⟨hno,pW,λj hj=>by
      cases hL:L j with
      |false=>rfl
      |true=>
       cases um:l[j]? with
       |none=>
        have h1:=gM.1
        rw[List.getD_eq_getElem?_getD,List.getElem?_eq_none (by have:=List.getElem?_eq_none_iff.1 um; omega)]at hj
        simp at hj
       |some oj=>
        have:=gM.2 L hc j oj um (λm hm=>hc j oj um hL m hm) i hj
        rw[hno]at this
        cases this⟩
     have hop:=hs.get (j:=i) (o:=o) (by rw[List.getElem?_take,if_pos uj]; exact hi)
     rw[Nat.zero_add]at hop
     refine(hop L a w hI mQ (kR hwf hi uj)).oF Da wI λa' w' h'=>⟨a',rfl,(show J (upd L i) a' w' from⟨mP,?_⟩)⟩
     by_cases hfull:∀j,j<k->upd L i j=true
     ·refine .inr ⟨hfull,0,Nat.zero_le _,λq hq oh=>?_,⟨rfl,?_⟩⟩
      ·have zO:L q=false:=by
        cases zO:L q with
        |false=>rfl
        |true=>
         cases hoq:l[q]? with
         |none=>rw[List.getElem?_eq_none_iff]at hoq; omega
         |some oq=>
          have:=gM.2 L hc q oq hoq (λm hm=>hc q oq hoq zO m hm) j0 (dD gr oh hq (by omega))
          rw[ue]at this; cases this
       have:upd L i q=L q:=by unfold upd; rw[if_neg (by omega)]
       rw[this,zO]
       constructor
       ·intro h; cases h
       ·intro h; omega
      ·obtain⟨β,hI'⟩:=h'
       refine⟨β,hI'.congr (dI hwf) λj hj=>?_⟩
       rw[List.length_take]at hj
       exact hfull j (by omega)
     ·refine .inl ⟨?_,h'⟩
      rw[Classical.not_forall]at hfull
      obtain⟨j,hj⟩:=hfull
      rw[Classical.not_imp]at hj
      exact⟨j,hj.1,Bool.not_eq_true _▸hj.2⟩
    ·have qQ:k<=i:=by
      rcases Nat.lt_or_ge i k with h'|h'
      ·rw[cE i h']at hno; cases hno
      ·exact h'
     have yu:i=k+m:=by
      have h1:¬i<k+m:=λh=>by rw[(vS i qQ sk).2 h]at hno; cases hno
      rcases Nat.lt_or_ge (k+m) i with h2|h2
      ·have h3:=pW (k+m) (dD gr sk qQ h2)
       have:=(vS (k+m) (by omega) (by omega)).1 h3
       omega
      ·omega
     obtain⟨hm0,FO⟩:=zN
     subst hm0
     have yu:i=k:=yu
     rw[yu]
     exact hp a w FO n _
 ·rintro L _ w ⟨a,rfl,_,hJ⟩ cE
  rcases hJ with⟨⟨j,hj,hL⟩,_⟩|⟨_,m,hmn,vS,zN⟩
  ·rw[cE j (by omega)]at hL; cases hL
  ·have hme:m=l.length-k:=by
    rcases Nat.lt_or_ge m (l.length-k)with h'|h'
    ·have:=(vS (k+m) (by omega) (by omega)).1 (cE (k+m) (by omega))
     omega
    ·omega
   subst hme
   have:=zN.1
   omega
variable {o:Oper}
theorem vq {n i:Nat} {ops:Array Oper} {f:FuncId} {args:Array Value} {R:List PanicEntry->World->Prop} {K':Act->World->Prop} (hi:ops[i]?=some o) (hd:ct o=true) (hg:o.guard=none) (hr:(execOp a.eval o).run P w=.ok (.enter f args) w) (hc:Calls P f args w λe w'=>∃ch,e=.panicked ch/\R ch w') (hq:∀ch w',R ch w'->Q (.panic ch) a w'):
  wpOpIn (tZ ro) n P ops (λe a' w'=>∃a0,a'=gI ds a0/\Q e a0 w') i K' (gI ds a) w:=by
 unfold wpOpIn
 rw[hi]
 simp only
 rw[if_pos (by simp[Region.wanted,hg])]
 unfold Oper.wpIn
 refine⟨λ_ _=>trivial,?_⟩
 rw[iw,Oper.semAt_eq _ _ _ (λc hc=>by unfold ct at hd; rw[hc]at hd; cases hd),hr]
 refine⟨λh=>(by cases h),CallsIn.mono (lG hc) λe w'' he=>?_⟩
 obtain⟨ch,rfl,hR⟩:=he
 exact⟨a,rfl,hq ch w'' hR⟩
def tA (P:Program) (c:bO) (V:List Vr) (G:List aK) (o:Oper) (R:List PanicEntry->Act->World->Prop):Prop:=ct o=true/\o.guard=none/\∀a w,Inv c V [] G none_ a w->∃f args,(execOp a.eval o).run P w=.ok (.enter f args) w/\Calls P f args w λe w'=>∃ch,e=.panicked ch/\R ch a w'
variable {R:List PanicEntry->Act->World->Prop} {V1 V2:List Vr} {G1 G2:List aK}
theorem Fk (h:Inv c V [] G none_ a w) (n k:Nat) (nv:List Vr) (A1:List Al) (ne:List aK) (hV:mC nv V V1) (hG:fY ne G G1) (hs:kS P l.toArray (tm n 0) c V1 A1 G1 0 (l.take k)) (kV:cQ V1 V2) (kG:aj G1 G2) (ho:l[k]?=some o) (hst:tA P c V2 G2 o R) (hq:∀ch a w,R ch a w->Q (.panic ch) a w)
  (hn:fJ nv A1 ne=true:=by kernel_rfl) (hb:kF c.N l (tm n 0) k V1 A1 G1=true:=by kernel_rfl) (hd:l.all ct=true:=by kernel_rfl):(Code.region id l.toArray false).ww ro ds P Q a w:=by
 unfold kF at hb
 simp only[Bool.and_eq_true,beq_iff_eq]at hb
 obtain⟨od,hkn,hwf⟩:=hb
 have hkn:=of_decide_eq_true hkn
 have zU:=(List.getElem?_eq_some_iff.1 ho).1
 refine mz k hkn hwf (List.all_eq_true.2 λo ho=>List.all_eq_true.1 hd o (List.mem_of_mem_take ho)) (dA h hV hG hn) (by rw[od]; exact hs) λa w hI n=>?_
 obtain⟨j,hj⟩:∃j,l.length-k=j+1:=⟨l.length-k-1,by omega⟩
 rw[hj,List.range'_succ,wpOpsIn_cons]
 obtain⟨f,args,h1,h2⟩:=hst.2.2 a w (eC hwf kV kG hI)
 exact vq (by simpa using ho) hst.1 hst.2.1 h1 (h2.mono λe w' ⟨ch,e1,e2⟩=>⟨ch,e1,e2⟩) λch w' hr=>hq ch a w' hr
theorem GD (h:Inv c V [] G none_ a w) (ms:List Nat) (k:Nat) (nv:List Vr) (A1:List Al) (ne:List aK) (hV:mC nv V V1) (hG:fY ne G G1) (hs:kS P l.toArray ms c V1 A1 G1 0 (l.take k)) (kV:cQ V1 V2) (kG:aj G1 G2) (ho:l[k]?=some o) (yw:k+1=l.length) (hst:tA P c V2 G2 o R) (hq:∀ch a w,R ch a w->Q (.panic ch) a w)
  (hn:fJ nv A1 ne=true:=by kernel_rfl) (hb:kE P c.N l ms k V1 A1 G1=true:=by kernel_rfl) (hd:l.all ct=true:=by kernel_rfl):(Code.region id l.toArray true).ww ro ds P Q a w:=by
 unfold kE at hb
 simp only[Bool.and_eq_true,beq_iff_eq]at hb
 obtain⟨zT,hm,hok,od,gr,hkn,hwf⟩:=hb
 refine yb ms k (of_decide_eq_true zT) hm hok od gr hd hkn hwf (dA h hV hG hn) hs yw λa w hI n K'=>?_
 obtain⟨f,args,h1,h2⟩:=hst.2.2 a w (eC hwf kV kG hI)
 exact vq (by simpa using ho) hst.1 hst.2.1 h1 (h2.mono λe w' ⟨ch,e1,e2⟩=>⟨ch,e1,e2⟩) λch w' hr=>hq ch a w' hr
theorem gY {ch:List PanicEntry} {next:Act->World->Prop} (h:Q (.panic ch) a w):Exit.then next Q (.panic ch) a w:=h
end
end Wx

namespace Wx
open Go Go.RowKit Go.Proofs
set_option linter.unusedVariables false
def sN (e:Int):List PanicEntry:=[{ v:=.iface 123 (.agg #[.int .i64 e]),recovered:=false }]
abbrev P2 (P:Program) (f:FuncId) (p0 p1:Pred) (vQ:List PanicEntry):Prop:=∀(M:Nat->Nat->Prop) (w:World) (v0 v1:Value),da M w->aN M (λw=>p0 w v0) w->aN M (λw=>p1 w v1) w->Calls P f #[v0,v1] w λe w'=>∃ch,e=.panicked ch/\ch=vQ/\Below w.heap.size w w'
section
variable {P:Program} {ops:Array Oper} {ms:List Nat} {c:bO} {V:List Vr} {A:List Al} {G:List aK} {i d:Nat} {x y z fx:Operand} {ty:TypeId} {pos:String} {ax:Array Edge} {a:Act} {w:World} {fn:Func}{f:FuncId} {ts:Array TypeId} {p:Pred}
theorem uS {args:Array Operand} (hf:aC P f) (hx:Has ms G i fx (aL (.func (.func f) #[] #[]))) (hp:Post G i p) (hc:∀L β a w,aS c V A G L β a w->gN ms i L->Calls P f (args.map a.eval) w (bX (own c V L β) p w)):OpOk P ops ms c V A G i ⟨some d,.call ⟨.value fx,args,ts⟩,ty,pos,ax,none⟩:=by
 refine dz (λL β a w hI hd hwf=>?_) rfl
 refine jW hf (hx.spec hI hd).out ((hc L β a w hI hd).mono ?_)
 rintro e w' ⟨v,rfl,hv,hb⟩
 exact⟨v,rfl,β,hI.value hwf (jt hwf rfl) rfl hb (λd q _ hq tr _=>by have:=hwf.aa q hq tr; cases this) λe he ht=>hv.imp λw=>hp.spec hwf he ht w v⟩
variable {H:List Bk} {p0 p1 p2 q2:Pred}
theorem DA {v:Vr} (N:Nat) (eR:K2 P f p1 p2 p) (hr:∀B w u,bR B w H->p0 w u->p1 w u) (hn:cw p) (hx:Has ms G i fx (aL (.func (.func f) #[] #[])):=by exact hs) (hv:pz N V=some v:=by exact rfl) (ho:bS ms i v=true:=by exact rfl) (cn:v.kd=.obj:=by exact rfl) (hst:(v.st.all λq=>(q.1==i||(ms.getD i 0).testBit q.1)||(ms.getD q.1 0).testBit i)=true:=by kernel_rfl)
  (hc:cont (λj=>(ms.getD i 0).testBit j) v.c0 v.st=rq H:=by exact rfl) (h1:Has ms G i x p0:=by exact hs) (h2:Has ms G i y q2:=by exact hs) (c2:∀w v,q2 w v->p2 w v:=by exact ic) (hp:Post G i p:=by exact pt rfl) (hf:aC P f:=by exactλ_ _=>by kernel_rfl):
  OpOk P ops ms c V A G i ⟨some d,.call ⟨.value fx,#[x,y],ts⟩,ty,pos,ax,none⟩:=by
 obtain⟨⟨k,hk⟩,_⟩:=ei hv
 refine uS hf hx hp λL β a w hI hd=>(by
  rw[show(#[x,y]:Array Operand).map a.eval=#[a.eval x,a.eval y] by simp]
  have hO:=jh hI hd (List.mem_of_getElem? hk) ho cn
  have hH:bR (β v.id) w H:=by
   have:=hO.2.out
   rw[fc hd hst,hc]at this
   exact this
  let M:=minus (own c V L β) (β v.id)
  have hM:da M w:=λk o hk=>aM hI k o hk.1
  have hsub:∀{w'},Ext M w w'->Ext (own c V L β) w w':=λhe=>he.mono' λk o hk=>hk.1
  refine(eR M w _ _ hM (λw' he=>?_) (λw' he=>(h2.imp c2).spec hI hd w' (hsub he))).mono λe w' zZ=>?_
  ·exact hr (β v.id) w' _ (hH.keep (aM hI) (hsub he) λe hm=>he.block e.b (Bk.gP (hH.2.2 e hm)) λo ho=>ho.2 ((hH.1 _).2 ⟨e,hm,rfl⟩)) (h1.spec hI hd w' (hsub he))
  ·obtain⟨v,rfl,dc,hv2⟩:=zZ
   exact⟨v,rfl,hn _ w' v ((aM hI).below hv2) dc.out,hv2⟩)
variable {Λ:Type} {C:Λ->Prop} {Hl:Λ->List Bk} {id s:Nat} {q1:Pred}
theorem DC {hd:Λ->Value} (jB:aN (λk o=>c.M0 k o\/c.de k) jz c.w0) (eR:L2 P f H p1 p2 C (λl=>.returned (hd l)) Hl) (hx:Has [0] G 0 fx (aL (.func (.func f) #[] #[])):=by exact hs) (h1:Has [0] G 0 x q1:=by exact hs) (c1:∀w v,q1 w v->p1 w v:=by exact ic) (h2:Has [0] G 0 y q2:=by exact hs) (c2:∀w v,q2 w v->p2 w v:=by exact ic)
  (hf:aC P f:=by exactλ_ _=>by kernel_rfl) (hd':decide (d<c.N)=true:=by kernel_rfl)
  (hV:((aQ id s H::V).all λy=>(y.slot != d)&&(y.born.isNone&&y.dead.isNone))=true:=by kernel_rfl) (hu:((aQ id s H::V).filter λy=>y.id==id).length=1:=by kernel_rfl) (hG:(G.all λe=>e.slot != d)=true:=by kernel_rfl):∀a w,Inv c (aQ id s H::V) [] G none_ a w ->
  aU P ops ⟨some d,.call ⟨.value fx,#[x,y],ts⟩,ty,pos,ax,none⟩ a w (λa w=>∃l,C l/\Inv c (aQ id s (Hl l)::V) [] (⟨none,none,d,aL (hd l)⟩::G) none_ a w):=λa w ⟨β,hI⟩=>by
 refine .of rfl (jW hf (hx.spec hI gl).out (Calls.mono (by
  rw[show(#[x,y]:Array Operand).map a.eval=#[a.eval x,a.eval y] by simp]
  exact eR _ _ w _ _ (jg (aM hI)) (λk hk o ho=>ho.2 hk) (hI.obj (n0:=0) rfl).1 (dm hI (n0:=0) rfl (kC jB hI)) (dm hI (n0:=0) rfl ((h1.imp c1).spec hI gl)) (dm hI (n0:=0) rfl ((h2.imp c2).spec hI gl))) ?_))
 rintro e w' ⟨l,B',k1,rfl,k2,k3,k4⟩
 exact⟨_,rfl,l,k1,hI.mW (n0:=0) rfl k2 k3 k4 (of_decide_eq_true hd') hV hu hG⟩
theorem aS.vr {β:Nat->Nat->Prop} {H':List Bk} {w':World} {B':Nat->Prop} (h:aS c (aQ id s H::V) [] G none_ β a w) (hle:cY (β id) w w') (hB:∀k,B' k->β id k\/w.heap.size<=k) (hH:bR B' w' H') (hV:eX (aQ id s H::V)=true) (hG:fQ G=true) (hu:mj (aQ id s H::V) id 0=true):Inv c (aQ id s H'::V) [] G none_ a w':=by
 have yy:=aM h
 refine⟨_,h.move (n0:=0) (R:=rq H) (R':=rq H') (w':=w') hV hG rfl (λy n hn hy=>oV hu y n hn hy) hle hB (λk hk=>hH.mY hk) ?_⟩
 have hb:aN (minus (λk j=>own c (aQ id s H::V) none_ β k j/\¬β id k) B') (λw=>bR B' w H') w':=hH.box λk j hk=>by
  obtain⟨h1,h2⟩:=hk
  obtain⟨h3,h4⟩:=yy k j h1
  refine⟨Nat.lt_of_lt_of_le h3 hle.size,λu dR=>h4 u ?_⟩
  rw[World.cell?_of_block (w:=w) (a:=⟨k,j,none⟩) (hle.block k h3 h2)]at dR
  exact dR
 refine hb.sub λk j hk hm=>⟨hm,λBj=>?_⟩
 exact(hB k Bj).elim (λh5=>hm.2 h5) λh5=>by have:=(yy k j hm.1).1; omega
variable {vQ:List PanicEntry}
theorem Ep (jB:aN (λk o=>c.M0 k o\/c.de k) jz c.w0) (eR:L2 P f H p1 p2 C (λ_=>.panicked vQ) Hl) (hx:Has [0] G 0 fx (aL (.func (.func f) #[] #[])):=by exact hs) (h1:Has [0] G 0 x q1:=by exact hs) (c1:∀w v,q1 w v->p1 w v:=by exact ic) (h2:Has [0] G 0 y q2:=by exact hs) (c2:∀w v,q2 w v->p2 w v:=by exact ic)
  (hf:aC P f:=by exactλ_ _=>by kernel_rfl) (hV:eX (aQ id s H::V)=true:=by kernel_rfl) (hG:fQ G=true:=by kernel_rfl) (hu:mj (aQ id s H::V) id 0=true:=by kernel_rfl):
  tA P c (aQ id s H::V) G ⟨some d,.call ⟨.value fx,#[x,y],ts⟩,ty,pos,ax,none⟩ (λch a w=>ch=vQ/\∃l,C l/\Inv c (aQ id s (Hl l)::V) [] G none_ a w):=by
 refine⟨rfl,rfl,λa w ⟨β,hI⟩=>⟨f,#[a.eval x,a.eval y],?_,Calls.mono (eR _ _ w _ _ (jg (aM hI)) (λk hk o ho=>ho.2 hk) (hI.obj (n0:=0) rfl).1 (dm hI (n0:=0) rfl (kC jB hI)) (dm hI (n0:=0) rfl ((h1.imp c1).spec hI gl)) (dm hI (n0:=0) rfl ((h2.imp c2).spec hI gl))) ?_⟩⟩
 ·have tg:a.eval fx=.func (.func f) #[] #[]:=(hx.spec hI gl).out
  have:=hf (#[a.eval x,a.eval y]++#[]) w
  simp only[execOp,resolve,tg,Deferred.ofValue,pure_bind,invoke]
  rw[Array.append_empty]at this
  rw[show(#[x,y]:Array Operand).map a.eval=#[a.eval x,a.eval y] by simp]
  first|exact this|simpa using this
 ·rintro e w' ⟨l,B',k1,rfl,k2,k3,k4⟩
  exact⟨_,rfl,rfl,l,k1,hI.vr k2 k3 k4 hV hG hu⟩
theorem CP (eR:P2 P f p1 p2 vQ) (hr:∀B w u,bR B w H->p0 w u->p1 w u) (h1:Has [0] G 0 x p0:=by exact hs) (h2:Has [0] G 0 y q2:=by exact hs) (c2:∀w v,q2 w v->p2 w v:=by exact ic)
  (hf:aC P f:=by exactλ_ _=>by kernel_rfl) (hV:eX (aQ id s H::V)=true:=by kernel_rfl) (hG:fQ G=true:=by kernel_rfl) (hu:mj (aQ id s H::V) id 0=true:=by kernel_rfl):
  tA P c (aQ id s H::V) G ⟨some d,.call ⟨.value (.func f),#[x,y],ts⟩,ty,pos,ax,none⟩ (λch a w=>ch=vQ/\Inv c (aQ id s H::V) [] G none_ a w):=by
 refine⟨rfl,rfl,λa w ⟨β,hI⟩=>⟨f,#[a.eval x,a.eval y],?_,?_⟩⟩
 ·have:=hf (#[a.eval x,a.eval y]++#[]) w
  have tg:a.eval (.func f)=.func (.func f) #[] #[]:=rfl
  simp only[execOp,resolve,tg,Deferred.ofValue,pure_bind,invoke]
  rw[Array.append_empty]at this
  rw[show(#[x,y]:Array Operand).map a.eval=#[a.eval x,a.eval y] by simp]
  first|exact this|simpa using this
 ·obtain⟨hH,_,_⟩:=hI.obj (n0:=0) rfl
  have hsub:∀{w'},Ext (minus (own c (aQ id s H::V) none_ β) (β id)) w w'->Ext (own c (aQ id s H::V) none_ β) w w':=λhe=>he.mono' λk o hk=>hk.1
  refine(eR (minus (own c (aQ id s H::V) none_ β) (β id)) w _ _ (λk o hk=>aM hI k o hk.1) (λw' he=>?_) (λw' he=>(h2.imp c2).spec hI gl w' (hsub he))).mono ?_
  ·exact hr (β id) w' _ (hH.keep (aM hI) (hsub he) λe hm=>he.block e.b (Bk.gP (hH.2.2 e hm)) λo ho=>ho.2 ((hH.1 _).2 ⟨e,hm,rfl⟩)) (h1.spec hI gl w' (hsub he))
  ·rintro e w' ⟨ch,rfl,rfl,hb⟩
   exact⟨_,rfl,rfl,hI.vr (cY.aX hb) (λk hk=>.inl hk) (hH.keep (aM hI) (Ext.aX hb) λe hm=>hb.block e.b (Bk.gP (hH.2.2 e hm))) hV hG hu⟩
variable {M:Nat->Nat->Prop} {N:Nat}
theorem ED {D:Code} {v0 v1:Value} {R:Ending->World->Prop} (hf:P.funcs[f]?=some fn) (hb:fn.body=some D) (hN:fn.ntmps=N) (hlen:decide ([v0,v1].length<=N)=true) (hM:da M w) (h0:aN M (λw=>p0 w v0) w) (h1:aN M (λw=>p1 w v1) w)
  (h:∀a,Inv ⟨N,w,M,λ_=>False⟩ [] [] [Uz 0 p0,Uz 1 p1] none_ a w->D.ww none [] P (bodyPost P fn R) a w):Calls P f #[v0,v1] w R:=
 calls_of_wp hf hb ((wpIn_wide (n:=0)).1 (wpIn_mono (h _ (lO hM (by have h2:2<=N:=of_decide_eq_true hlen; simp[hN]; omega) rfl (dV.ok (show dV M w [v0,v1] [Uz 0 p0,Uz 1 p1]from⟨⟨rfl,_,rfl,h0⟩,⟨rfl,_,rfl,h1⟩,trivial⟩))) 0) λe a' w' ⟨a0,e0,h0⟩=>by subst e0; exact h0))
variable {w0:World} {B:Nat->Prop}
theorem B5 (l:Λ) (hC:C l) (hI:Inv ⟨N,w0,M,B⟩ (aQ id s (Hl l)::V) [] G none_ a w):bodyPost P fn (ig B C (λ_=>.panicked vQ) Hl w0) (.panic vQ) a w:=by
 obtain⟨β,hI⟩:=hI
 obtain⟨h1,h2,_⟩:=hI.obj (n0:=0) rfl
 exact⟨hI.defers,l,β id,hC,rfl,hI.below,λk hk'=>(h2 k hk').symm,h1⟩
theorem B4 (hI:Inv ⟨N,w0,M,B⟩ V [] G none_ a w) (hB:∀k,¬B k):bodyPost P fn (λe w'=>∃ch,e=.panicked ch/\ch=vQ/\Below w0.heap.size w0 w') (.panic vQ) a w:=by
 obtain⟨β,hI⟩:=hI
 exact⟨hI.defers,_,rfl,rfl,hI.below.below hB⟩
end
theorem AU {c:bO} {V:List Vr} {G:List aK} {x:Operand} {ts:Array TypeId} {d:Nat} {ty:TypeId} {pos:String} {ax:Array Edge} (e:Int) (h1:Has [0] G 0 x (pB true):=by exact hs) (hf:aC Tryz.prog 127:=by exactλ_ _=>by kernel_rfl):tA Tryz.prog c V G ⟨some d,.call ⟨.value (.func 127),#[x,.const (.int .i64 e)],ts⟩,ty,pos,ax,none⟩ (λch a w=>ch=sN e/\Inv c V [] G none_ a w):=by
 refine⟨rfl,rfl,λa w hI=>⟨127,#[.bool true,.int .i64 e],?_,(qs e w).mono ?_⟩⟩
 ·obtain⟨β,hI⟩:=hI
  have hx:a.eval x=.bool true:=(h1.spec hI gl).out
  have:=hf (#[.bool true,.int .i64 e]++#[]) w
  simp only[execOp,resolve,Act.eval,Deferred.ofValue,pure_bind,invoke]
  rw[Array.append_empty]at this
  rw[show(#[x,.const (.int .i64 e)]:Array Operand).map a.eval=#[a.eval x,.int .i64 e] by simp[Act.eval],hx]
  first|exact this|simpa using this
 ·rintro en w' ⟨rfl,rfl⟩
  exact⟨_,rfl,rfl,hI⟩
end Wx
