import Derived.Test.YtfnmkhlleanppaaGreatDoorJWC32
namespace Wx
open Go Go.RowKit
section
variable {ro:Option Nat} {ds:List Deferred} {P:Program} {Q:Exit->Act->World->Prop} {c:bQ} {V:List Vr} {A:List Al} {G:List aN} {a:Act} {w:World}{id:Nat} {l:List Oper}
theorem Cx (ms:List Nat) (k:Nat) (ux:0<k) (hm:P.follows .mixedOrders=true) (hok:gV l.toArray=true) (rz:ox l=ms) (iC:rJ ms k l.length=true) (hnd:l.all cF=true) (hkn:decide (k<=l.length)=true) (hwf:nY c.N (l.take k) V A G=true)
  (h0:Inv c V A G none_ a w) (hs:mh P l.toArray ms c V A G 0 (l.take k)) (CU:k+1=l.length) (hp:∀a w,Inv c V A G (λ_=>true) a w->∀n (K':Act->World->Prop),wpOpIn (rf ro) n P l.toArray (λe a' w'=>∃a0,a'=fo ds a0/\Q e a0 w') k K' (fo ds a) w):
  (Code.region id l.toArray true).ww ro ds P Q a w:=by
 intro n
 let K:Nat->Act->World->Prop:=λm a w=>m=0/\Inv c V A G (λ_=>true) a w
 have hkn:=of_decide_eq_true hkn
 have jb:=mQ l
 rw[rz]at jb
 let J:(Nat->Bool)->Act->World->Prop:=λL a w=>gM l L/\(((∃j,j<k/\L j=false)/\Inv c V A G L a w)\/((∀j,j<k->L j=true)/\∃m,m<=l.length-k/\(∀i,k<=i->i<l.length->(L i=true↔i<k+m))/\K m a w))
 refine iM hm hok (λL a' w=>∃a,a'=fo ds a/\J L a w) ⟨a,rfl,λi o _ h=>(by cases h),.inl ⟨⟨0,ux,rfl⟩,?_⟩⟩ ?_ ?_
 ·obtain⟨β,hβ⟩:=h0
  exact⟨β,hβ.draws⟩
 ·rintro i o hi L _ w ⟨a,rfl,hc,hJ⟩ hno hpre
  ··have vM:i<l.length:=by
     rcases Nat.lt_or_ge i l.length with h'|h'
     ·exact h'
     ·rw[List.getElem?_eq_none h']at hi; cases hi
    have IK:l.toArray[i]?=some o:=by simpa using hi
    have A9:cF o=true:=List.all_eq_true.1 hnd o (List.mem_of_getElem? hi)
    have sY:∀j,(ms.getD i 0).testBit j=true->L j=true:=λj hj=>jb.2 L hc i o hi hpre j hj
    have lp:gM l (upd L i):=by
     intro k' ok iD hL j hj
     by_cases uy:k'=i
     ·subst uy
      rw[hi]at iD
      injection iD with iD
      subst iD
      have:=hpre j hj
      unfold upd
      split
      ·rfl
      ·exact this
     ·have:=hc k' ok iD (ua hL uy) j hj
      unfold upd
      split
      ·rfl
      ·exact this
    rcases hJ with⟨⟨j0,G4,xT⟩,hI⟩|⟨de,m,hmn,Ao,D8⟩
    ·have ya:i<k:=by
      rcases Nat.lt_or_ge i k with h'|h'
      ·exact h'
      ·have:=sY j0 (eF iC vM h' (by omega))
       rw[xT]at this; cases this
     have pF:iY ms i L:=⟨hno,sY,λj hj=>by
      cases hL:L j with
      |false=>rfl
      |true=>
       cases yf:l[j]? with
       |none=>
        have h1:=jb.1
        rw[List.getD_eq_getElem?_getD,List.getElem?_eq_none (by have:=List.getElem?_eq_none_iff.1 yf; omega)]at hj
        simp at hj
       |some oj=>
        have:=jb.2 L hc j oj yf (λm hm=>hc j oj yf hL m hm) i hj
        rw[hno]at this
        cases this⟩
     have hop:=hs.get (j:=i) (o:=o) (by rw[List.getElem?_take,if_pos ya]; exact hi)
     rw[Nat.zero_add]at hop
     refine(hop L a w hI pF (nx hwf hi ya)).nT IK A9 λa' w' h'=>⟨a',rfl,(show J (upd L i) a' w' from⟨lp,?_⟩)⟩
     by_cases hfull:∀j,j<k->upd L i j=true
     ·refine .inr ⟨hfull,0,Nat.zero_le _,λq hq rC=>?_,⟨rfl,?_⟩⟩
      ·have D9:L q=false:=by
        cases D9:L q with
        |false=>rfl
        |true=>
         cases hoq:l[q]? with
         |none=>rw[List.getElem?_eq_none_iff]at hoq; omega
         |some oq=>
          have:=jb.2 L hc q oq hoq (λm hm=>hc q oq hoq D9 m hm) j0 (eF iC rC hq (by omega))
          rw[xT]at this; cases this
       have:upd L i q=L q:=by unfold upd; rw[if_neg (by omega)]
       rw[this,D9]
       constructor
       ·intro h; cases h
       ·intro h; omega
      ·obtain⟨β,hI'⟩:=h'
       refine⟨β,hI'.congr (eJ hwf) λj hj=>?_⟩
       rw[List.length_take]at hj
       exact hfull j (by omega)
     ·refine .inl ⟨?_,h'⟩
      rw[Classical.not_forall]at hfull
      obtain⟨j,hj⟩:=hfull
      rw[Classical.not_imp]at hj
      exact⟨j,hj.1,Bool.not_eq_true _▸hj.2⟩
    ·have uy:k<=i:=by
      rcases Nat.lt_or_ge i k with h'|h'
      ·rw[de i h']at hno; cases hno
      ·exact h'
     have nA:i=k+m:=by
      have h1:¬i<k+m:=λh=>by rw[(Ao i uy vM).2 h]at hno; cases hno
      rcases Nat.lt_or_ge (k+m) i with h2|h2
      ·have h3:=sY (k+m) (eF iC vM uy h2)
       have:=(Ao (k+m) (by omega) (by omega)).1 h3
       omega
      ·omega
     obtain⟨hm0,L9⟩:=D8
     subst hm0
     have nA:i=k:=nA
     rw[nA]
     exact hp a w L9 n _
 ·rintro L _ w ⟨a,rfl,_,hJ⟩ de
  rcases hJ with⟨⟨j,hj,hL⟩,_⟩|⟨_,m,hmn,Ao,D8⟩
  ·rw[de j (by omega)]at hL; cases hL
  ·have hme:m=l.length-k:=by
    rcases Nat.lt_or_ge m (l.length-k)with h'|h'
    ·have:=(Ao (k+m) (by omega) (by omega)).1 (de (k+m) (by omega))
     omega
    ·omega
   subst hme
   have:=D8.1
   omega
variable {o:Oper}
theorem zE {n i:Nat} {ops:Array Oper} {f:FuncId} {args:Array Value} {R:List PanicEntry->World->Prop} {K':Act->World->Prop} (hi:ops[i]?=some o) (hd:cF o=true) (hg:o.guard=none) (hr:(execOp a.eval o).run P w=.ok (.enter f args) w) (hc:Calls P f args w λe w'=>∃ch,e=.panicked ch/\R ch w') (hq:∀ch w',R ch w'->Q (.panic ch) a w'):
  wpOpIn (rf ro) n P ops (λe a' w'=>∃a0,a'=fo ds a0/\Q e a0 w') i K' (fo ds a) w:=by
 unfold wpOpIn
 rw[hi]
 simp only
 rw[if_pos (by simp[Region.wanted,hg])]
 unfold Oper.wpIn
 refine⟨λ_ _=>trivial,?_⟩
 rw[iA,Oper.semAt_eq _ _ _ (λc hc=>by unfold cF at hd; rw[hc]at hd; cases hd),hr]
 refine⟨λh=>(by cases h),CallsIn.mono (kI hc) λe w'' he=>?_⟩
 obtain⟨ch,rfl,hR⟩:=he
 exact⟨a,rfl,hq ch w'' hR⟩
def xh (P:Program) (c:bQ) (V:List Vr) (G:List aN) (o:Oper) (R:List PanicEntry->Act->World->Prop):Prop:=cF o=true/\o.guard=none/\∀a w,Inv c V [] G none_ a w->∃f args,(execOp a.eval o).run P w=.ok (.enter f args) w/\Calls P f args w λe w'=>∃ch,e=.panicked ch/\R ch a w'
variable {R:List PanicEntry->Act->World->Prop} {V1 V2:List Vr} {G1 G2:List aN}
theorem LF (h:Inv c V [] G none_ a w) (n k:Nat) (nv:List Vr) (A1:List Al) (ne:List aN) (hV:oa nv V V1) (hG:ic ne G G1) (hs:mh P l.toArray (tm n 0) c V1 A1 G1 0 (l.take k)) (kV:dA V1 V2) (kG:aA G1 G2) (ho:l[k]?=some o) (hst:xh P c V2 G2 o R) (hq:∀ch a w,R ch a w->Q (.panic ch) a w)
  (hn:gH nv A1 ne=true:=by kernel_rfl) (hb:nh c.N l (tm n 0) k V1 A1 G1=true:=by kernel_rfl) (hd:l.all cF=true:=by kernel_rfl):(Code.region id l.toArray false).ww ro ds P Q a w:=by
 unfold nh at hb
 simp only[Bool.and_eq_true,beq_iff_eq]at hb
 obtain⟨rz,hkn,hwf⟩:=hb
 have hkn:=of_decide_eq_true hkn
 have Eh:=(List.getElem?_eq_some_iff.1 ho).1
 refine kZ k hkn hwf (List.all_eq_true.2 λo ho=>List.all_eq_true.1 hd o (List.mem_of_mem_take ho)) (dS h hV hG hn) (by rw[rz]; exact hs) λa w hI n=>?_
 obtain⟨j,hj⟩:∃j,l.length-k=j+1:=⟨l.length-k-1,by omega⟩
 rw[hj,List.range'_succ,wpOpsIn_cons]
 obtain⟨f,args,h1,h2⟩:=hst.2.2 a w (eY hwf kV kG hI)
 exact zE (by simpa using ho) hst.1 hst.2.1 h1 (h2.mono λe w' ⟨ch,e1,e2⟩=>⟨ch,e1,e2⟩) λch w' hr=>hq ch a w' hr
theorem Nf (h:Inv c V [] G none_ a w) (ms:List Nat) (k:Nat) (nv:List Vr) (A1:List Al) (ne:List aN) (hV:oa nv V V1) (hG:ic ne G G1) (hs:mh P l.toArray ms c V1 A1 G1 0 (l.take k)) (kV:dA V1 V2) (kG:aA G1 G2) (ho:l[k]?=some o) (CU:k+1=l.length) (hst:xh P c V2 G2 o R) (hq:∀ch a w,R ch a w->Q (.panic ch) a w)
  (hn:gH nv A1 ne=true:=by kernel_rfl) (hb:ng P c.N l ms k V1 A1 G1=true:=by kernel_rfl) (hd:l.all cF=true:=by kernel_rfl):(Code.region id l.toArray true).ww ro ds P Q a w:=by
 unfold ng at hb
 simp only[Bool.and_eq_true,beq_iff_eq]at hb
 obtain⟨ux,hm,hok,rz,iC,hkn,hwf⟩:=hb
 refine Cx ms k (of_decide_eq_true ux) hm hok rz iC hd hkn hwf (dS h hV hG hn) hs CU λa w hI n K'=>?_
 obtain⟨f,args,h1,h2⟩:=hst.2.2 a w (eY hwf kV kG hI)
 exact zE (by simpa using ho) hst.1 hst.2.1 h1 (h2.mono λe w' ⟨ch,e1,e2⟩=>⟨ch,e1,e2⟩) λch w' hr=>hq ch a w' hr
theorem jt {ch:List PanicEntry} {next:Act->World->Prop} (h:Q (.panic ch) a w):Exit.then next Q (.panic ch) a w:=h
end
end Wx

namespace Wx
open Go Go.RowKit Go.Proofs
set_option linter.unusedVariables false
def wG (e:Int):List PanicEntry:=[{ v:=.iface 123 (.agg #[.int .i64 e]),recovered:=false }]
abbrev P2 (P:Program) (f:FuncId) (p0 p1:Pred) (Aj:List PanicEntry):Prop:=∀(M:Nat->Nat->Prop) (w:World) (v0 v1:Value),cS M w->aJ M (λw=>p0 w v0) w->aJ M (λw=>p1 w v1) w->Calls P f #[v0,v1] w λe w'=>∃ch,e=.panicked ch/\ch=Aj/\Below w.heap.size w w'
section
variable {P:Program} {ops:Array Oper} {ms:List Nat} {c:bQ} {V:List Vr} {A:List Al} {G:List aN} {i d:Nat} {x y z fx:Operand} {ty:TypeId} {pos:String} {aft:Array Edge} {a:Act} {w:World} {fn:Func}{f:FuncId} {ts:Array TypeId} {p:Pred}
theorem zj {args:Array Operand} (hf:aK P f) (hx:Has ms G i fx (aG (.func (.func f) #[] #[]))) (hp:Post G i p) (hc:∀L β a w,aQ c V A G L β a w->iY ms i L->Calls P f (args.map a.eval) w (cI (own c V L β) p w)):OpOk P ops ms c V A G i ⟨some d,.call ⟨.value fx,args,ts⟩,ty,pos,aft,none⟩:=by
 refine eZ (λL β a w hI hd hwf=>?_) rfl
 refine mA hf (hx.spec hI hd).out ((hc L β a w hI hd).mono ?_)
 rintro e w' ⟨v,rfl,hv,hb⟩
 exact⟨v,rfl,β,hI.value hwf (lA hwf rfl) rfl hb (λd q _ hq xb _=>by have:=hwf.aa q hq xb; cases this) λe he ht=>hv.imp λw=>hp.spec hwf he ht w v⟩
variable {H:List Bk} {p0 p1 p2 q2:Pred}
theorem Je {v:Vr} (N:Nat) (gj:K2 P f p1 p2 p) (hr:∀B w u,cn B w H->p0 w u->p1 w u) (hn:aO p) (hx:Has ms G i fx (aG (.func (.func f) #[] #[])):=by exact hs) (hv:ia N V=some v:=by exact rfl) (ho:bC ms i v=true:=by exact rfl) (bR:v.kd=.obj:=by exact rfl) (hst:(v.st.all λq=>(q.1==i||(ms.getD i 0).testBit q.1)||(ms.getD q.1 0).testBit i)=true:=by kernel_rfl)
  (hc:cont (λj=>(ms.getD i 0).testBit j) v.c0 v.st=uN H:=by exact rfl) (h1:Has ms G i x p0:=by exact hs) (h2:Has ms G i y q2:=by exact hs) (c2:∀w v,q2 w v->p2 w v:=by exact jw) (hp:Post G i p:=by exact pt rfl) (hf:aK P f:=by exactλ_ _=>by kernel_rfl):
  OpOk P ops ms c V A G i ⟨some d,.call ⟨.value fx,#[x,y],ts⟩,ty,pos,aft,none⟩:=by
 obtain⟨⟨k,hk⟩,_⟩:=cH hv
 refine zj hf hx hp λL β a w hI hd=>(by
  rw[show(#[x,y]:Array Operand).map a.eval=#[a.eval x,a.eval y] by simp]
  have hO:=jl hI hd (List.mem_of_getElem? hk) ho bR
  have hH:cn (β v.id) w H:=by
   have:=hO.2.out
   rw[fq hd hst,hc]at this
   exact this
  let M:=minus (own c V L β) (β v.id)
  have hM:cS M w:=λk o hk=>aF hI k o hk.1
  have hsub:∀{w'},Ext M w w'->Ext (own c V L β) w w':=λhe=>he.mono' λk o hk=>hk.1
  refine(gj M w _ _ hM (λw' he=>?_) (λw' he=>(h2.imp c2).spec hI hd w' (hsub he))).mono λe w' Eo=>?_
  ·exact hr (β v.id) w' _ (hH.keep (aF hI) (hsub he) λe hm=>he.block e.b (Bk.je (hH.2.2 e hm)) λo ho=>ho.2 ((hH.1 _).2 ⟨e,hm,rfl⟩)) (h1.spec hI hd w' (hsub he))
  ·obtain⟨v,rfl,da,hv2⟩:=Eo
   exact⟨v,rfl,hn _ w' v ((aF hI).below hv2) da.out,hv2⟩)
variable {Λ:Type} {C:Λ->Prop} {Hl:Λ->List Bk} {id s:Nat} {q1:Pred}
theorem Jh {hd:Λ->Value} (kK:aJ (λk o=>c.M0 k o\/c.dc k) jd c.w0) (gj:L2 P f H p1 p2 C (λl=>.returned (hd l)) Hl) (hx:Has [0] G 0 fx (aG (.func (.func f) #[] #[])):=by exact hs) (h1:Has [0] G 0 x q1:=by exact hs) (c1:∀w v,q1 w v->p1 w v:=by exact jw) (h2:Has [0] G 0 y q2:=by exact hs) (c2:∀w v,q2 w v->p2 w v:=by exact jw)
  (hf:aK P f:=by exactλ_ _=>by kernel_rfl) (hd':decide (d<c.N)=true:=by kernel_rfl)
  (hV:((aZ id s H::V).all λy=>(y.slot != d)&&(y.born.isNone&&y.dead.isNone))=true:=by kernel_rfl) (hu:((aZ id s H::V).filter λy=>y.id==id).length=1:=by kernel_rfl) (hG:(G.all λe=>e.slot != d)=true:=by kernel_rfl):∀a w,Inv c (aZ id s H::V) [] G none_ a w ->
  aW P ops ⟨some d,.call ⟨.value fx,#[x,y],ts⟩,ty,pos,aft,none⟩ a w (λa w=>∃l,C l/\Inv c (aZ id s (Hl l)::V) [] (⟨none,none,d,aG (hd l)⟩::G) none_ a w):=λa w ⟨β,hI⟩=>by
 refine .of rfl (mA hf (hx.spec hI gl).out (Calls.mono (by
  rw[show(#[x,y]:Array Operand).map a.eval=#[a.eval x,a.eval y] by simp]
  exact gj _ _ w _ _ (kP (aF hI)) (λk hk o ho=>ho.2 hk) (hI.obj (n0:=0) rfl).1 (ee hI (n0:=0) rfl (ki kK hI)) (ee hI (n0:=0) rfl ((h1.imp c1).spec hI gl)) (ee hI (n0:=0) rfl ((h2.imp c2).spec hI gl))) ?_))
 rintro e w' ⟨l,B',k1,rfl,k2,k3,k4⟩
 exact⟨_,rfl,l,k1,hI.pY (n0:=0) rfl k2 k3 k4 (of_decide_eq_true hd') hV hu hG⟩
theorem aQ.zF {β:Nat->Nat->Prop} {H':List Bk} {w':World} {B':Nat->Prop} (h:aQ c (aZ id s H::V) [] G none_ β a w) (hle:bX (β id) w w') (hB:∀k,B' k->β id k\/w.heap.size<=k) (hH:cn B' w' H') (hV:bE (aZ id s H::V)=true) (hG:bT G=true) (hu:dG (aZ id s H::V) id 0=true):Inv c (aZ id s H'::V) [] G none_ a w':=by
 have CW:=aF h
 refine⟨_,h.move (n0:=0) (R:=uN H) (R':=uN H') (w':=w') hV hG rfl (λy n hn hy=>cX hu y n hn hy) hle hB (λk hk=>hH.qf hk) ?_⟩
 have hb:aJ (minus (λk j=>own c (aZ id s H::V) none_ β k j/\¬β id k) B') (λw=>cn B' w H') w':=hH.box λk j hk=>by
  obtain⟨h1,h2⟩:=hk
  obtain⟨h3,h4⟩:=CW k j h1
  refine⟨Nat.lt_of_lt_of_le h3 hle.size,λu dH=>h4 u ?_⟩
  rw[World.cell?_of_block (w:=w) (a:=⟨k,j,none⟩) (hle.block k h3 h2)]at dH
  exact dH
 refine hb.sub λk j hk hm=>⟨hm,λFP=>?_⟩
 exact(hB k FP).elim (λh5=>hm.2 h5) λh5=>by have:=(CW k j hm.1).1; omega
variable {Aj:List PanicEntry}
theorem Kr (kK:aJ (λk o=>c.M0 k o\/c.dc k) jd c.w0) (gj:L2 P f H p1 p2 C (λ_=>.panicked Aj) Hl) (hx:Has [0] G 0 fx (aG (.func (.func f) #[] #[])):=by exact hs) (h1:Has [0] G 0 x q1:=by exact hs) (c1:∀w v,q1 w v->p1 w v:=by exact jw) (h2:Has [0] G 0 y q2:=by exact hs) (c2:∀w v,q2 w v->p2 w v:=by exact jw)
  (hf:aK P f:=by exactλ_ _=>by kernel_rfl) (hV:bE (aZ id s H::V)=true:=by kernel_rfl) (hG:bT G=true:=by kernel_rfl) (hu:dG (aZ id s H::V) id 0=true:=by kernel_rfl):
  xh P c (aZ id s H::V) G ⟨some d,.call ⟨.value fx,#[x,y],ts⟩,ty,pos,aft,none⟩ (λch a w=>ch=Aj/\∃l,C l/\Inv c (aZ id s (Hl l)::V) [] G none_ a w):=by
 refine⟨rfl,rfl,λa w ⟨β,hI⟩=>⟨f,#[a.eval x,a.eval y],?_,Calls.mono (gj _ _ w _ _ (kP (aF hI)) (λk hk o ho=>ho.2 hk) (hI.obj (n0:=0) rfl).1 (ee hI (n0:=0) rfl (ki kK hI)) (ee hI (n0:=0) rfl ((h1.imp c1).spec hI gl)) (ee hI (n0:=0) rfl ((h2.imp c2).spec hI gl))) ?_⟩⟩
 ·have sL:a.eval fx=.func (.func f) #[] #[]:=(hx.spec hI gl).out
  have:=hf (#[a.eval x,a.eval y]++#[]) w
  simp only[execOp,resolve,sL,Deferred.ofValue,pure_bind,invoke]
  rw[Array.append_empty]at this
  rw[show(#[x,y]:Array Operand).map a.eval=#[a.eval x,a.eval y] by simp]
  first|exact this|simpa using this
 ·rintro e w' ⟨l,B',k1,rfl,k2,k3,k4⟩
  exact⟨_,rfl,rfl,l,k1,hI.zF k2 k3 k4 hV hG hu⟩
theorem H9 (gj:P2 P f p1 p2 Aj) (hr:∀B w u,cn B w H->p0 w u->p1 w u) (h1:Has [0] G 0 x p0:=by exact hs) (h2:Has [0] G 0 y q2:=by exact hs) (c2:∀w v,q2 w v->p2 w v:=by exact jw)
  (hf:aK P f:=by exactλ_ _=>by kernel_rfl) (hV:bE (aZ id s H::V)=true:=by kernel_rfl) (hG:bT G=true:=by kernel_rfl) (hu:dG (aZ id s H::V) id 0=true:=by kernel_rfl):
  xh P c (aZ id s H::V) G ⟨some d,.call ⟨.value (.func f),#[x,y],ts⟩,ty,pos,aft,none⟩ (λch a w=>ch=Aj/\Inv c (aZ id s H::V) [] G none_ a w):=by
 refine⟨rfl,rfl,λa w ⟨β,hI⟩=>⟨f,#[a.eval x,a.eval y],?_,?_⟩⟩
 ·have:=hf (#[a.eval x,a.eval y]++#[]) w
  have sL:a.eval (.func f)=.func (.func f) #[] #[]:=rfl
  simp only[execOp,resolve,sL,Deferred.ofValue,pure_bind,invoke]
  rw[Array.append_empty]at this
  rw[show(#[x,y]:Array Operand).map a.eval=#[a.eval x,a.eval y] by simp]
  first|exact this|simpa using this
 ·obtain⟨hH,_,_⟩:=hI.obj (n0:=0) rfl
  have hsub:∀{w'},Ext (minus (own c (aZ id s H::V) none_ β) (β id)) w w'->Ext (own c (aZ id s H::V) none_ β) w w':=λhe=>he.mono' λk o hk=>hk.1
  refine(gj (minus (own c (aZ id s H::V) none_ β) (β id)) w _ _ (λk o hk=>aF hI k o hk.1) (λw' he=>?_) (λw' he=>(h2.imp c2).spec hI gl w' (hsub he))).mono ?_
  ·exact hr (β id) w' _ (hH.keep (aF hI) (hsub he) λe hm=>he.block e.b (Bk.je (hH.2.2 e hm)) λo ho=>ho.2 ((hH.1 _).2 ⟨e,hm,rfl⟩)) (h1.spec hI gl w' (hsub he))
  ·rintro e w' ⟨ch,rfl,rfl,hb⟩
   exact⟨_,rfl,rfl,hI.zF (bX.bH hb) (λk hk=>.inl hk) (hH.keep (aF hI) (Ext.bH hb) λe hm=>hb.block e.b (Bk.je (hH.2.2 e hm))) hV hG hu⟩
variable {M:Nat->Nat->Prop} {N:Nat}
theorem KD {D:Code} {v0 v1:Value} {R:Ending->World->Prop} (hf:P.funcs[f]?=some fn) (hb:fn.body=some D) (hN:fn.ntmps=N) (hlen:decide ([v0,v1].length<=N)=true) (hM:cS M w) (h0:aJ M (λw=>p0 w v0) w) (h1:aJ M (λw=>p1 w v1) w)
  (h:∀a,Inv ⟨N,w,M,λ_=>False⟩ [] [] [Uz 0 p0,Uz 1 p1] none_ a w->D.ww none [] P (bodyPost P fn R) a w):Calls P f #[v0,v1] w R:=
 calls_of_wp hf hb ((wpIn_wide (n:=0)).1 (wpIn_mono (h _ (iS hM (by have h2:2<=N:=of_decide_eq_true hlen; simp[hN]; omega) rfl (eR.ok (show eR M w [v0,v1] [Uz 0 p0,Uz 1 p1]from⟨⟨rfl,_,rfl,h0⟩,⟨rfl,_,rfl,h1⟩,trivial⟩))) 0) λe a' w' ⟨a0,e0,h0⟩=>by subst e0; exact h0))
variable {w0:World} {B:Nat->Prop}
theorem GI (l:Λ) (hC:C l) (hI:Inv ⟨N,w0,M,B⟩ (aZ id s (Hl l)::V) [] G none_ a w):bodyPost P fn (jz B C (λ_=>.panicked Aj) Hl w0) (.panic Aj) a w:=by
 obtain⟨β,hI⟩:=hI
 obtain⟨h1,h2,_⟩:=hI.obj (n0:=0) rfl
 exact⟨hI.defers,l,β id,hC,rfl,hI.below,λk hk'=>(h2 k hk').symm,h1⟩
theorem GH (hI:Inv ⟨N,w0,M,B⟩ V [] G none_ a w) (hB:∀k,¬B k):bodyPost P fn (λe w'=>∃ch,e=.panicked ch/\ch=Aj/\Below w0.heap.size w0 w') (.panic Aj) a w:=by
 obtain⟨β,hI⟩:=hI
 exact⟨hI.defers,_,rfl,rfl,hI.below.below hB⟩
end
theorem Fq {c:bQ} {V:List Vr} {G:List aN} {x:Operand} {ts:Array TypeId} {d:Nat} {ty:TypeId} {pos:String} {aft:Array Edge} (e:Int) (h1:Has [0] G 0 x (pB true):=by exact hs) (hf:aK Tryz.prog 127:=by exactλ_ _=>by kernel_rfl):xh Tryz.prog c V G ⟨some d,.call ⟨.value (.func 127),#[x,.const (.int .i64 e)],ts⟩,ty,pos,aft,none⟩ (λch a w=>ch=wG e/\Inv c V [] G none_ a w):=by
 refine⟨rfl,rfl,λa w hI=>⟨127,#[.bool true,.int .i64 e],?_,(tN e w).mono ?_⟩⟩
 ·obtain⟨β,hI⟩:=hI
  have hx:a.eval x=.bool true:=(h1.spec hI gl).out
  have:=hf (#[.bool true,.int .i64 e]++#[]) w
  simp only[execOp,resolve,Act.eval,Deferred.ofValue,pure_bind,invoke]
  rw[Array.append_empty]at this
  rw[show(#[x,.const (.int .i64 e)]:Array Operand).map a.eval=#[a.eval x,.int .i64 e] by simp[Act.eval],hx]
  first|exact this|simpa using this
 ·rintro en w' ⟨rfl,rfl⟩
  exact⟨_,rfl,rfl,hI⟩
end Wx
