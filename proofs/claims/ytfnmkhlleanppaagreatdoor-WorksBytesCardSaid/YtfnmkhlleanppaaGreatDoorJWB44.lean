import Derived.Test.YtfnmkhlleanppaaGreatDoorJWB37
namespace Wx
open Go Go.RowKit
section
variable {ro:Option Nat} {ds:List Deferred} {P:Program} {Q:Exit->Act->World->Prop} {c:bJ} {V:List Vr} {A:List Al} {G:List aI} {a:Act} {w:World}{id:Nat} {l:List Oper}
theorem yh (ms:List Nat) (k:Nat) (zW:0<k) (hm:P.follows .mixedOrders=true) (hok:fR l.toArray=true) (oy:lX l=ms) (gv:oH ms k l.length=true) (hnd:l.all ck=true) (hkn:decide (k<=l.length)=true) (hwf:mC c.N (l.take k) V A G=true)
  (h0:Inv c V A G none_ a w) (hs:ld P l.toArray ms c V A G 0 (l.take k)) (yB:k+1=l.length) (hp:∀a w,Inv c V A G (λ_=>true) a w->∀n (K':Act->World->Prop),wpOpIn (uo ro) n P l.toArray (λe a' w'=>∃a0,a'=gJ ds a0/\Q e a0 w') k K' (gJ ds a) w):
  (Code.region id l.toArray true).ww ro ds P Q a w:=by
 intro n
 let K:Nat->Act->World->Prop:=λm a w=>m=0/\Inv c V A G (λ_=>true) a w
 have hkn:=of_decide_eq_true hkn
 have gR:=kB l
 rw[oy]at gR
 let J:(Nat->Bool)->Act->World->Prop:=λL a w=>fF l L/\(((∃j,j<k/\L j=false)/\Inv c V A G L a w)\/((∀j,j<k->L j=true)/\∃m,m<=l.length-k/\(∀i,k<=i->i<l.length->(L i=true↔i<k+m))/\K m a w))
 refine gE hm hok (λL a' w=>∃a,a'=gJ ds a/\J L a w) ⟨a,rfl,λi o _ h=>(by cases h),.inl ⟨⟨0,zW,rfl⟩,?_⟩⟩ ?_ ?_
 ·obtain⟨β,hβ⟩:=h0
  exact⟨β,hβ.draws⟩
 ·rintro i o hi L _ w ⟨a,rfl,hc,hJ⟩ hno hpre
  ··have sD:i<l.length:=by
     rcases Nat.lt_or_ge i l.length with h'|h'
     ·exact h'
     ·rw[List.getElem?_eq_none h']at hi; cases hi
    have Df:l.toArray[i]?=some o:=by simpa using hi
    have wR:ck o=true:=List.all_eq_true.1 hnd o (List.mem_of_getElem? hi)
    have qd:∀j,(ms.getD i 0).testBit j=true->L j=true:=λj hj=>gR.2 L hc i o hi hpre j hj
    have mY:fF l (upd L i):=by
     intro k' ok gw hL j hj
     by_cases ow:k'=i
     ·subst ow
      rw[hi]at gw
      injection gw with gw
      subst gw
      have:=hpre j hj
      unfold upd
      split
      ·rfl
      ·exact this
     ·have:=hc k' ok gw (qI hL ow) j hj
      unfold upd
      split
      ·rfl
      ·exact this
    rcases hJ with⟨⟨j0,F4,uv⟩,hI⟩|⟨cy,m,hmn,vY,zQ⟩
    ·have uy:i<k:=by
      rcases Nat.lt_or_ge i k with h'|h'
      ·exact h'
      ·have:=qd j0 (dN gv sD h' (by omega))
       rw[uv]at this; cases this
     have mZ:gO ms i L:=⟨hno,qd,λj hj=>by
      cases hL:L j with
      |false=>rfl
      |true=>
       cases uA:l[j]? with
       |none=>
        have h1:=gR.1
        rw[List.getD_eq_getElem?_getD,List.getElem?_eq_none (by have:=List.getElem?_eq_none_iff.1 uA; omega)]at hj
        simp at hj
       |some oj=>
        have:=gR.2 L hc j oj uA (λm hm=>hc j oj uA hL m hm) i hj
        rw[hno]at this
        cases this⟩
     have hop:=hs.get (j:=i) (o:=o) (by rw[List.getElem?_take,if_pos uy]; exact hi)
     rw[Nat.zero_add]at hop
     refine(hop L a w hI mZ (kX hwf hi uy)).oO Df wR λa' w' h'=>⟨a',rfl,(show J (upd L i) a' w' from⟨mY,?_⟩)⟩
     by_cases hfull:∀j,j<k->upd L i j=true
     ·refine .inr ⟨hfull,0,Nat.zero_le _,λq hq oz=>?_,⟨rfl,?_⟩⟩
      ·have zR:L q=false:=by
        cases zR:L q with
        |false=>rfl
        |true=>
         cases hoq:l[q]? with
         |none=>rw[List.getElem?_eq_none_iff]at hoq; omega
         |some oq=>
          have:=gR.2 L hc q oq hoq (λm hm=>hc q oq hoq zR m hm) j0 (dN gv oz hq (by omega))
          rw[uv]at this; cases this
       have:upd L i q=L q:=by unfold upd; rw[if_neg (by omega)]
       rw[this,zR]
       constructor
       ·intro h; cases h
       ·intro h; omega
      ·obtain⟨β,hI'⟩:=h'
       refine⟨β,hI'.congr (dR hwf) λj hj=>?_⟩
       rw[List.length_take]at hj
       exact hfull j (by omega)
     ·refine .inl ⟨?_,h'⟩
      rw[Classical.not_forall]at hfull
      obtain⟨j,hj⟩:=hfull
      rw[Classical.not_imp]at hj
      exact⟨j,hj.1,Bool.not_eq_true _▸hj.2⟩
    ·have ow:k<=i:=by
      rcases Nat.lt_or_ge i k with h'|h'
      ·rw[cy i h']at hno; cases hno
      ·exact h'
     have yA:i=k+m:=by
      have h1:¬i<k+m:=λh=>by rw[(vY i ow sD).2 h]at hno; cases hno
      rcases Nat.lt_or_ge (k+m) i with h2|h2
      ·have h3:=qd (k+m) (dN gv sD ow h2)
       have:=(vY (k+m) (by omega) (by omega)).1 h3
       omega
      ·omega
     obtain⟨hm0,FU⟩:=zQ
     subst hm0
     have yA:i=k:=yA
     rw[yA]
     exact hp a w FU n _
 ·rintro L _ w ⟨a,rfl,_,hJ⟩ cy
  rcases hJ with⟨⟨j,hj,hL⟩,_⟩|⟨_,m,hmn,vY,zQ⟩
  ·rw[cy j (by omega)]at hL; cases hL
  ·have hme:m=l.length-k:=by
    rcases Nat.lt_or_ge m (l.length-k)with h'|h'
    ·have:=(vY (k+m) (by omega) (by omega)).1 (cy (k+m) (by omega))
     omega
    ·omega
   subst hme
   have:=zQ.1
   omega
variable {o:Oper}
theorem vC {n i:Nat} {ops:Array Oper} {f:FuncId} {args:Array Value} {R:List PanicEntry->World->Prop} {K':Act->World->Prop} (hi:ops[i]?=some o) (hd:ck o=true) (hg:o.guard=none) (hr:(execOp a.eval o).run P w=.ok (.enter f args) w) (hc:Calls P f args w λe w'=>∃ch,e=.panicked ch/\R ch w') (hq:∀ch w',R ch w'->Q (.panic ch) a w'):
  wpOpIn (uo ro) n P ops (λe a' w'=>∃a0,a'=gJ ds a0/\Q e a0 w') i K' (gJ ds a) w:=by
 unfold wpOpIn
 rw[hi]
 simp only
 rw[if_pos (by simp[Region.wanted,hg])]
 unfold Oper.wpIn
 refine⟨λ_ _=>trivial,?_⟩
 rw[iy,Oper.semAt_eq _ _ _ (λc hc=>by unfold ck at hd; rw[hc]at hd; cases hd),hr]
 refine⟨λh=>(by cases h),CallsIn.mono (lP hc) λe w'' he=>?_⟩
 obtain⟨ch,rfl,hR⟩:=he
 exact⟨a,rfl,hq ch w'' hR⟩
def tL (P:Program) (c:bJ) (V:List Vr) (G:List aI) (o:Oper) (R:List PanicEntry->Act->World->Prop):Prop:=ck o=true/\o.guard=none/\∀a w,Inv c V [] G none_ a w->∃f args,(execOp a.eval o).run P w=.ok (.enter f args) w/\Calls P f args w λe w'=>∃ch,e=.panicked ch/\R ch a w'
variable {R:List PanicEntry->Act->World->Prop} {V1 V2:List Vr} {G1 G2:List aI}
theorem Fm (h:Inv c V [] G none_ a w) (n k:Nat) (nv:List Vr) (A1:List Al) (ne:List aI) (hV:mI nv V V1) (hG:gg ne G G1) (hs:ld P l.toArray (tm n 0) c V1 A1 G1 0 (l.take k)) (kV:cR V1 V2) (kG:aj G1 G2) (ho:l[k]?=some o) (hst:tL P c V2 G2 o R) (hq:∀ch a w,R ch a w->Q (.panic ch) a w)
  (hn:fL nv A1 ne=true:=by kernel_rfl) (hb:kO c.N l (tm n 0) k V1 A1 G1=true:=by kernel_rfl) (hd:l.all ck=true:=by kernel_rfl):(Code.region id l.toArray false).ww ro ds P Q a w:=by
 unfold kO at hb
 simp only[Bool.and_eq_true,beq_iff_eq]at hb
 obtain⟨oy,hkn,hwf⟩:=hb
 have hkn:=of_decide_eq_true hkn
 have zX:=(List.getElem?_eq_some_iff.1 ho).1
 refine mF k hkn hwf (List.all_eq_true.2 λo ho=>List.all_eq_true.1 hd o (List.mem_of_mem_take ho)) (dK h hV hG hn) (by rw[oy]; exact hs) λa w hI n=>?_
 obtain⟨j,hj⟩:∃j,l.length-k=j+1:=⟨l.length-k-1,by omega⟩
 rw[hj,List.range'_succ,wpOpsIn_cons]
 obtain⟨f,args,h1,h2⟩:=hst.2.2 a w (eM hwf kV kG hI)
 exact vC (by simpa using ho) hst.1 hst.2.1 h1 (h2.mono λe w' ⟨ch,e1,e2⟩=>⟨ch,e1,e2⟩) λch w' hr=>hq ch a w' hr
theorem GU (h:Inv c V [] G none_ a w) (ms:List Nat) (k:Nat) (nv:List Vr) (A1:List Al) (ne:List aI) (hV:mI nv V V1) (hG:gg ne G G1) (hs:ld P l.toArray ms c V1 A1 G1 0 (l.take k)) (kV:cR V1 V2) (kG:aj G1 G2) (ho:l[k]?=some o) (yB:k+1=l.length) (hst:tL P c V2 G2 o R) (hq:∀ch a w,R ch a w->Q (.panic ch) a w)
  (hn:fL nv A1 ne=true:=by kernel_rfl) (hb:kN P c.N l ms k V1 A1 G1=true:=by kernel_rfl) (hd:l.all ck=true:=by kernel_rfl):(Code.region id l.toArray true).ww ro ds P Q a w:=by
 unfold kN at hb
 simp only[Bool.and_eq_true,beq_iff_eq]at hb
 obtain⟨zW,hm,hok,oy,gv,hkn,hwf⟩:=hb
 refine yh ms k (of_decide_eq_true zW) hm hok oy gv hd hkn hwf (dK h hV hG hn) hs yB λa w hI n K'=>?_
 obtain⟨f,args,h1,h2⟩:=hst.2.2 a w (eM hwf kV kG hI)
 exact vC (by simpa using ho) hst.1 hst.2.1 h1 (h2.mono λe w' ⟨ch,e1,e2⟩=>⟨ch,e1,e2⟩) λch w' hr=>hq ch a w' hr
theorem ia {ch:List PanicEntry} {next:Act->World->Prop} (h:Q (.panic ch) a w):Exit.then next Q (.panic ch) a w:=h
end
end Wx

namespace Wx
open Go Go.RowKit Go.Proofs
set_option linter.unusedVariables false
def td (e:Int):List PanicEntry:=[{ v:=.iface 123 (.agg #[.int .i64 e]),recovered:=false }]
abbrev P2 (P:Program) (f:FuncId) (p0 p1:Pred) (vW:List PanicEntry):Prop:=∀(M:Nat->Nat->Prop) (w:World) (v0 v1:Value),dm M w->aK M (λw=>p0 w v0) w->aK M (λw=>p1 w v1) w->Calls P f #[v0,v1] w λe w'=>∃ch,e=.panicked ch/\ch=vW/\Below w.heap.size w w'
section
variable {P:Program} {ops:Array Oper} {ms:List Nat} {c:bJ} {V:List Vr} {A:List Al} {G:List aI} {i d:Nat} {x y z fx:Operand} {ty:TypeId} {pos:String} {au:Array Edge} {a:Act} {w:World} {fn:Func}{f:FuncId} {ts:Array TypeId} {p:Pred}
theorem vg {args:Array Operand} (hf:aA P f) (hx:Has ms G i fx (aJ (.func (.func f) #[] #[]))) (hp:Post G i p) (hc:∀L β a w,aS c V A G L β a w->gO ms i L->Calls P f (args.map a.eval) w (bX (own c V L β) p w)):OpOk P ops ms c V A G i ⟨some d,.call ⟨.value fx,args,ts⟩,ty,pos,au,none⟩:=by
 refine dJ (λL β a w hI hd hwf=>?_) rfl
 refine kf hf (hx.spec hI hd).out ((hc L β a w hI hd).mono ?_)
 rintro e w' ⟨v,rfl,hv,hb⟩
 exact⟨v,rfl,β,hI.value hwf (jz hwf rfl) rfl hb (λd q _ hq tJ _=>by have:=hwf.aa q hq tJ; cases this) λe he ht=>hv.imp λw=>hp.spec hwf he ht w v⟩
variable {H:List Bk} {p0 p1 p2 q2:Pred}
theorem DC {v:Vr} (N:Nat) (eZ:K2 P f p1 p2 p) (hr:∀B w u,bN B w H->p0 w u->p1 w u) (hn:cr p) (hx:Has ms G i fx (aJ (.func (.func f) #[] #[])):=by exact hs) (hv:pC N V=some v:=by exact rfl) (ho:bD ms i v=true:=by exact rfl) (bT:v.kd=.obj:=by exact rfl) (hst:(v.st.all λq=>(q.1==i||(ms.getD i 0).testBit q.1)||(ms.getD q.1 0).testBit i)=true:=by kernel_rfl)
  (hc:cont (λj=>(ms.getD i 0).testBit j) v.c0 v.st=rF H:=by exact rfl) (h1:Has ms G i x p0:=by exact hs) (h2:Has ms G i y q2:=by exact hs) (c2:∀w v,q2 w v->p2 w v:=by exact ig) (hp:Post G i p:=by exact pt rfl) (hf:aA P f:=by exactλ_ _=>by kernel_rfl):
  OpOk P ops ms c V A G i ⟨some d,.call ⟨.value fx,#[x,y],ts⟩,ty,pos,au,none⟩:=by
 obtain⟨⟨k,hk⟩,_⟩:=dW hv
 refine vg hf hx hp λL β a w hI hd=>(by
  rw[show(#[x,y]:Array Operand).map a.eval=#[a.eval x,a.eval y] by simp]
  have hO:=jk hI hd (List.mem_of_getElem? hk) ho bT
  have hH:bN (β v.id) w H:=by
   have:=hO.2.out
   rw[fj hd hst,hc]at this
   exact this
  let M:=minus (own c V L β) (β v.id)
  have hM:dm M w:=λk o hk=>aL hI k o hk.1
  have hsub:∀{w'},Ext M w w'->Ext (own c V L β) w w':=λhe=>he.mono' λk o hk=>hk.1
  refine(eZ M w _ _ hM (λw' he=>?_) (λw' he=>(h2.imp c2).spec hI hd w' (hsub he))).mono λe w' Ac=>?_
  ·exact hr (β v.id) w' _ (hH.keep (aL hI) (hsub he) λe hm=>he.block e.b (Bk.gT (hH.2.2 e hm)) λo ho=>ho.2 ((hH.1 _).2 ⟨e,hm,rfl⟩)) (h1.spec hI hd w' (hsub he))
  ·obtain⟨v,rfl,dH,hv2⟩:=Ac
   exact⟨v,rfl,hn _ w' v ((aL hI).below hv2) dH.out,hv2⟩)
variable {Λ:Type} {C:Λ->Prop} {Hl:Λ->List Bk} {id s:Nat} {q1:Pred}
theorem DF {hd:Λ->Value} (jI:aK (λk o=>c.M0 k o\/c.dx k) jG c.w0) (eZ:L2 P f H p1 p2 C (λl=>.returned (hd l)) Hl) (hx:Has [0] G 0 fx (aJ (.func (.func f) #[] #[])):=by exact hs) (h1:Has [0] G 0 x q1:=by exact hs) (c1:∀w v,q1 w v->p1 w v:=by exact ig) (h2:Has [0] G 0 y q2:=by exact hs) (c2:∀w v,q2 w v->p2 w v:=by exact ig)
  (hf:aA P f:=by exactλ_ _=>by kernel_rfl) (hd':decide (d<c.N)=true:=by kernel_rfl)
  (hV:((aP id s H::V).all λy=>(y.slot != d)&&(y.born.isNone&&y.dead.isNone))=true:=by kernel_rfl) (hu:((aP id s H::V).filter λy=>y.id==id).length=1:=by kernel_rfl) (hG:(G.all λe=>e.slot != d)=true:=by kernel_rfl):∀a w,Inv c (aP id s H::V) [] G none_ a w ->
  aU P ops ⟨some d,.call ⟨.value fx,#[x,y],ts⟩,ty,pos,au,none⟩ a w (λa w=>∃l,C l/\Inv c (aP id s (Hl l)::V) [] (⟨none,none,d,aJ (hd l)⟩::G) none_ a w):=λa w ⟨β,hI⟩=>by
 refine .of rfl (kf hf (hx.spec hI gW).out (Calls.mono (by
  rw[show(#[x,y]:Array Operand).map a.eval=#[a.eval x,a.eval y] by simp]
  exact eZ _ _ w _ _ (jj (aL hI)) (λk hk o ho=>ho.2 hk) (hI.obj (n0:=0) rfl).1 (dA hI (n0:=0) rfl (kL jI hI)) (dA hI (n0:=0) rfl ((h1.imp c1).spec hI gW)) (dA hI (n0:=0) rfl ((h2.imp c2).spec hI gW))) ?_))
 rintro e w' ⟨l,B',k1,rfl,k2,k3,k4⟩
 exact⟨_,rfl,l,k1,hI.nr (n0:=0) rfl k2 k3 k4 (of_decide_eq_true hd') hV hu hG⟩
theorem aS.vD {β:Nat->Nat->Prop} {H':List Bk} {w':World} {B':Nat->Prop} (h:aS c (aP id s H::V) [] G none_ β a w) (hle:di (β id) w w') (hB:∀k,B' k->β id k\/w.heap.size<=k) (hH:bN B' w' H') (hV:fh (aP id s H::V)=true) (hG:fQ G=true) (hu:mA (aP id s H::V) id 0=true):Inv c (aP id s H'::V) [] G none_ a w':=by
 have yD:=aL h
 refine⟨_,h.move (n0:=0) (R:=rF H) (R':=rF H') (w':=w') hV hG rfl (λy n hn hy=>pA hu y n hn hy) hle hB (λk hk=>hH.nw hk) ?_⟩
 have hb:aK (minus (λk j=>own c (aP id s H::V) none_ β k j/\¬β id k) B') (λw=>bN B' w H') w':=hH.box λk j hk=>by
  obtain⟨h1,h2⟩:=hk
  obtain⟨h3,h4⟩:=yD k j h1
  refine⟨Nat.lt_of_lt_of_le h3 hle.size,λu dZ=>h4 u ?_⟩
  rw[World.cell?_of_block (w:=w) (a:=⟨k,j,none⟩) (hle.block k h3 h2)]at dZ
  exact dZ
 refine hb.sub λk j hk hm=>⟨hm,λBo=>?_⟩
 exact(hB k Bo).elim (λh5=>hm.2 h5) λh5=>by have:=(yD k j hm.1).1; omega
variable {vW:List PanicEntry}
theorem Eu (jI:aK (λk o=>c.M0 k o\/c.dx k) jG c.w0) (eZ:L2 P f H p1 p2 C (λ_=>.panicked vW) Hl) (hx:Has [0] G 0 fx (aJ (.func (.func f) #[] #[])):=by exact hs) (h1:Has [0] G 0 x q1:=by exact hs) (c1:∀w v,q1 w v->p1 w v:=by exact ig) (h2:Has [0] G 0 y q2:=by exact hs) (c2:∀w v,q2 w v->p2 w v:=by exact ig)
  (hf:aA P f:=by exactλ_ _=>by kernel_rfl) (hV:fh (aP id s H::V)=true:=by kernel_rfl) (hG:fQ G=true:=by kernel_rfl) (hu:mA (aP id s H::V) id 0=true:=by kernel_rfl):
  tL P c (aP id s H::V) G ⟨some d,.call ⟨.value fx,#[x,y],ts⟩,ty,pos,au,none⟩ (λch a w=>ch=vW/\∃l,C l/\Inv c (aP id s (Hl l)::V) [] G none_ a w):=by
 refine⟨rfl,rfl,λa w ⟨β,hI⟩=>⟨f,#[a.eval x,a.eval y],?_,Calls.mono (eZ _ _ w _ _ (jj (aL hI)) (λk hk o ho=>ho.2 hk) (hI.obj (n0:=0) rfl).1 (dA hI (n0:=0) rfl (kL jI hI)) (dA hI (n0:=0) rfl ((h1.imp c1).spec hI gW)) (dA hI (n0:=0) rfl ((h2.imp c2).spec hI gW))) ?_⟩⟩
 ·have tF:a.eval fx=.func (.func f) #[] #[]:=(hx.spec hI gW).out
  have:=hf (#[a.eval x,a.eval y]++#[]) w
  simp only[execOp,resolve,tF,Deferred.ofValue,pure_bind,invoke]
  rw[Array.append_empty]at this
  rw[show(#[x,y]:Array Operand).map a.eval=#[a.eval x,a.eval y] by simp]
  first|exact this|simpa using this
 ·rintro e w' ⟨l,B',k1,rfl,k2,k3,k4⟩
  exact⟨_,rfl,rfl,l,k1,hI.vD k2 k3 k4 hV hG hu⟩
theorem CV (eZ:P2 P f p1 p2 vW) (hr:∀B w u,bN B w H->p0 w u->p1 w u) (h1:Has [0] G 0 x p0:=by exact hs) (h2:Has [0] G 0 y q2:=by exact hs) (c2:∀w v,q2 w v->p2 w v:=by exact ig)
  (hf:aA P f:=by exactλ_ _=>by kernel_rfl) (hV:fh (aP id s H::V)=true:=by kernel_rfl) (hG:fQ G=true:=by kernel_rfl) (hu:mA (aP id s H::V) id 0=true:=by kernel_rfl):
  tL P c (aP id s H::V) G ⟨some d,.call ⟨.value (.func f),#[x,y],ts⟩,ty,pos,au,none⟩ (λch a w=>ch=vW/\Inv c (aP id s H::V) [] G none_ a w):=by
 refine⟨rfl,rfl,λa w ⟨β,hI⟩=>⟨f,#[a.eval x,a.eval y],?_,?_⟩⟩
 ·have:=hf (#[a.eval x,a.eval y]++#[]) w
  have tF:a.eval (.func f)=.func (.func f) #[] #[]:=rfl
  simp only[execOp,resolve,tF,Deferred.ofValue,pure_bind,invoke]
  rw[Array.append_empty]at this
  rw[show(#[x,y]:Array Operand).map a.eval=#[a.eval x,a.eval y] by simp]
  first|exact this|simpa using this
 ·obtain⟨hH,_,_⟩:=hI.obj (n0:=0) rfl
  have hsub:∀{w'},Ext (minus (own c (aP id s H::V) none_ β) (β id)) w w'->Ext (own c (aP id s H::V) none_ β) w w':=λhe=>he.mono' λk o hk=>hk.1
  refine(eZ (minus (own c (aP id s H::V) none_ β) (β id)) w _ _ (λk o hk=>aL hI k o hk.1) (λw' he=>?_) (λw' he=>(h2.imp c2).spec hI gW w' (hsub he))).mono ?_
  ·exact hr (β id) w' _ (hH.keep (aL hI) (hsub he) λe hm=>he.block e.b (Bk.gT (hH.2.2 e hm)) λo ho=>ho.2 ((hH.1 _).2 ⟨e,hm,rfl⟩)) (h1.spec hI gW w' (hsub he))
  ·rintro e w' ⟨ch,rfl,rfl,hb⟩
   exact⟨_,rfl,rfl,hI.vD (di.bg hb) (λk hk=>.inl hk) (hH.keep (aL hI) (Ext.bg hb) λe hm=>hb.block e.b (Bk.gT (hH.2.2 e hm))) hV hG hu⟩
variable {M:Nat->Nat->Prop} {N:Nat}
theorem EC {D:Code} {v0 v1:Value} {R:Ending->World->Prop} (hf:P.funcs[f]?=some fn) (hb:fn.body=some D) (hN:fn.ntmps=N) (hlen:decide ([v0,v1].length<=N)=true) (hM:dm M w) (h0:aK M (λw=>p0 w v0) w) (h1:aK M (λw=>p1 w v1) w)
  (h:∀a,Inv ⟨N,w,M,λ_=>False⟩ [] [] [Uz 0 p0,Uz 1 p1] none_ a w->D.ww none [] P (bodyPost P fn R) a w):Calls P f #[v0,v1] w R:=
 calls_of_wp hf hb ((wpIn_wide (n:=0)).1 (wpIn_mono (h _ (lV hM (by have h2:2<=N:=of_decide_eq_true hlen; simp[hN]; omega) rfl (eu.ok (show eu M w [v0,v1] [Uz 0 p0,Uz 1 p1]from⟨⟨rfl,_,rfl,h0⟩,⟨rfl,_,rfl,h1⟩,trivial⟩))) 0) λe a' w' ⟨a0,e0,h0⟩=>by subst e0; exact h0))
variable {w0:World} {B:Nat->Prop}
theorem B8 (l:Λ) (hC:C l) (hI:Inv ⟨N,w0,M,B⟩ (aP id s (Hl l)::V) [] G none_ a w):bodyPost P fn (ik B C (λ_=>.panicked vW) Hl w0) (.panic vW) a w:=by
 obtain⟨β,hI⟩:=hI
 obtain⟨h1,h2,_⟩:=hI.obj (n0:=0) rfl
 exact⟨hI.defers,l,β id,hC,rfl,hI.below,λk hk'=>(h2 k hk').symm,h1⟩
theorem B7 (hI:Inv ⟨N,w0,M,B⟩ V [] G none_ a w) (hB:∀k,¬B k):bodyPost P fn (λe w'=>∃ch,e=.panicked ch/\ch=vW/\Below w0.heap.size w0 w') (.panic vW) a w:=by
 obtain⟨β,hI⟩:=hI
 exact⟨hI.defers,_,rfl,rfl,hI.below.below hB⟩
end
theorem AX {c:bJ} {V:List Vr} {G:List aI} {x:Operand} {ts:Array TypeId} {d:Nat} {ty:TypeId} {pos:String} {au:Array Edge} (e:Int) (h1:Has [0] G 0 x (pB true):=by exact hs) (hf:aA Tryz.prog 127:=by exactλ_ _=>by kernel_rfl):tL Tryz.prog c V G ⟨some d,.call ⟨.value (.func 127),#[x,.const (.int .i64 e)],ts⟩,ty,pos,au,none⟩ (λch a w=>ch=td e/\Inv c V [] G none_ a w):=by
 refine⟨rfl,rfl,λa w hI=>⟨127,#[.bool true,.int .i64 e],?_,(qA e w).mono ?_⟩⟩
 ·obtain⟨β,hI⟩:=hI
  have hx:a.eval x=.bool true:=(h1.spec hI gW).out
  have:=hf (#[.bool true,.int .i64 e]++#[]) w
  simp only[execOp,resolve,Act.eval,Deferred.ofValue,pure_bind,invoke]
  rw[Array.append_empty]at this
  rw[show(#[x,.const (.int .i64 e)]:Array Operand).map a.eval=#[a.eval x,.int .i64 e] by simp[Act.eval],hx]
  first|exact this|simpa using this
 ·rintro en w' ⟨rfl,rfl⟩
  exact⟨_,rfl,rfl,hI⟩
end Wx
