import Derived.Test.YtikkgpljpglnbaaGreatJRM44
namespace Wx
set_option maxRecDepth 100000
open Go Go.RowKit Go.Proofs
set_option linter.unusedVariables false
attribute [local irreducible] OpOk
noncomputable abbrev rC (L:List Pt):List Pt:=dz (cL L).length (cL L)
variable {L:List Pt}
set_option maxHeartbeats 2000000 in
theorem Gb (h:Fc L):K1 Tryz.prog 18 (eC L) (bz 2 true ((ah (cL L) (cL L).length).length-1+((ah (rC L) (cL L).length).length-1)) λi=>cq (ae (di (cL L) (rC L) (cL L).length) i)):=by
 intro M w0 v0 hM hv0
 have h2:=h.two
 have hm:=h.max
 have hc:=CG (L:=L) (by omega)
 have mc:=hc.le
 have hc2:=h.c2
 obtain⟨hlo,PV⟩:=Bf hc.K5 hc2
 have NL:2<=(ah (rC L) (cL L).length).length:=PV
 have Aa:=dw (cL L) (cL L).length
 have hl2:=dw (rC L) (cL L).length
 have NB:∀q,q<(cL L).length->cG 16777216 (ae (cL L) q):=λq hq=>by
  obtain⟨j,hj,e⟩:=hc.mem q hq
  rw[e]
  exact jj _ hj
 have Cs:∀q,q<(cL L).length->cG 16777216 (ae (rC L) q):=λq hq=>by rw[jh hq]; exact NB _ (by omega)
 refine rY (N:=21) Tryz.func18 rfl rfl rfl hM hv0 λa hI=>?_
 refine aZ hI 1 [Uc 0 2 _] (.k .z) ⟨mv,trivial⟩ (.kk .z) λa w hI=>?_
 refine ko hI 3 1 [] [] [Uc 0 5 _] .z (.kk .z) ⟨mv,trivial⟩ .z (.KL .z) (Q1 (wv (L:=L)) ⟨by omega,by omega⟩ (λ_=>bK _)) λa w hI=>?_
 obtain⟨b6,c6,LZ,hI⟩:=hI
 have Rt:(cL L).length<=c6/\c6<=maxLen:=⟨by omega,LZ.2⟩
 refine ko hI 2 1 [] [] [Uc 0 7 _] (.k .z) (.cE .z) ⟨mv,trivial⟩ (.k .z) (.gX .z) ⟨_,QX (n0:=0) (Dx (L:=L) (b:=b6) (n:=L.length) (N:=c6*2) (c:=c6)) (c1:=λ_ _ h=>h) (c2:=λ_ _ h=>h) (hφ:=⟨h.near,hm,by omega⟩) (hp:=bu _) (hq:=bQ λ_=>bK _),rfl⟩ λa w hI=>?_
 dsimp only[List.set]at hI
 refine ko hI 3 1 [] [] [Uc 0 9 _] (.k .z) (.aj .z) ⟨mv,trivial⟩ (.k .z) (.CS (.k .z)) (Lo (n0:=0) (yC (S:=sL L) (b:=b6) (m:=c6*2) (n:=L.length) (cap:=c6)) ⟨h2,hm,by omega,LZ.1⟩ (bQ λ_=>bK _) (c1:=λ_ _ h=>h)) λa w hI=>?_
 dsimp only[List.set]at hI
 refine bk hI 1 [] [] [Uc 0 3 _] (.k .z) (.cE .z) ⟨mv,trivial⟩ (.k .z) (.gX .z) λa w hI=>?_
 refine ko hI 4 2 [] [] [Uc 0 11 _,Uc 1 12 _] (.k .z) (.cE .z) ⟨mv,mv,trivial⟩ (.k .z) (.aj (.k .z)) (Q0 (n0:=0) (mw (S:=cL L) rfl) ⟨hc2,by omega,NB,hlo⟩ (λ_=>bK _) (hc:=Rt)) λa w hI=>?_
 obtain⟨Sj,c13,Pa,hI⟩:=hI
 refine ko hI 2 1 [] [] [Uc 0 14 _] (.k (.k .z)) (.aj (.kk .z)) ⟨mv,trivial⟩ (.k (.k .z)) (.aj (.lO .z)) ⟨_,Oo (n0:=1) (tf (L:=cL L) (b:=b6) (n:=(cL L).length) (N:=c6*2) (c:=c6)) (c1:=λ_ _ h=>h) (hφ:=⟨by omega,by omega,NB⟩) (hp:=bu _) (hq:=bQ λ_=>bK _),rfl⟩ λa w hI=>?_
 dsimp only[List.set]at hI
 refine ko hI 6 4 [] [] [Uc 0 16 _,Uc 1 17 _,Uc 2 18 _,Uc 3 19 _] (.k (.k .z)) (.aj (.kk .z)) ⟨mv,mv,mv,QZ (mw (S:=rC L) mO) 6 ⟨hc2,by omega,Cs,NL⟩ (λ_=>bK _) (hcap:=Rt),trivial⟩ (.k (.k .z)) (.cH (.CS (.dk .z))) (CN (n0:=0) (λi=>cq (ae (di (cL L) (rC L) (cL L).length) i)) wh (by omega) (hnf:=λ_=>bK _) (hng:=λ_=>bK _) (hfit:=λ_=>bC _)) λa w hI=>?_
 obtain⟨s',hI⟩:=hI
 dsimp only[List.set]at hI
 have hI:=uE hI 0 2 rfl (by kernel_rfl)
 dsimp only[List.eraseIdx]at hI
 refine aH ?_
 exact cT hI rfl fR
theorem Dt (h:Fc L):K1 Tryz.prog 18 (eC L) (eC (hL L)):=by
 have k:=Gb h
 rw[<-nC]at k
 exact k
theorem D7 (h:dJ L=0):ae L 0≠ae L 1:=λe=>by
 obtain⟨hn,_,he⟩:=BX h
 have h1:oN L.length 0=1:=Nat.mod_eq_of_lt (by omega)
 have:=he 0 (by omega) 2 (by omega) (by decide) (by rw[h1]; decide)
 rw[h1,e,Cm]at this
 exact absurd this (by decide)
variable {K:List Pt} {q:Nat}
theorem tX (h:q<K.length):ae (K++L) q=ae K q:=by
 unfold ae
 rw[List.getD_eq_getElem?_getD,List.getD_eq_getElem?_getD,List.getElem?_append_left h]
theorem CL (h:K.length<=q):ae (K++L) q=ae L (q-K.length):=by
 unfold ae
 rw[List.getD_eq_getElem?_getD,List.getD_eq_getElem?_getD,List.getElem?_append_right h]
theorem Ae {k l:Int} (h1:ct K k=0) (h2:ct L l=0):Fc (K++L):=by
 have p1:=bZ h1
 have p2:=bZ h2
 have l1:=cV p1
 have l2:=cV p2
 have hlen:(K++L).length=K.length+L.length:=List.length_append
 have hn:rB (K++L):=λq hq=>by
  by_cases g:q<K.length
  ·rw[tX g]; exact gv p1 q g
  ·rw[CL (by omega)]; exact gv p2 _ (by omega)
 refine⟨by omega,by omega,hn,?_⟩
 have hc:=CG (L:=K++L) (by omega)
 obtain⟨i,hi,ei⟩:=(mU (n:=(K++L).length) (p:=ae (K++L) 0) hn).2 ⟨0,by omega,rfl⟩
 obtain⟨j,hj,ej⟩:=(mU (n:=(K++L).length) (p:=ae (K++L) 1) hn).2 ⟨1,by omega,rfl⟩
 refine Fw hc hi hj λe=>D7 p1 ?_
 have e:ae (dr (K++L).length (K++L)) i=ae (dr (K++L).length (K++L)) j:=e
 rw[ei,ej,tX (by omega),tX (by omega)]at e
 exact e
noncomputable def dM (K L:List Pt) (k l:Int):Int:=if ct K k≠0 then ct K k else if ct L l≠0 then ct L l else if(hL (K++L)).length>10 then 4 else 0
noncomputable def sA (K L:List Pt) (k l:Int):List Pt:=if dM K L k l=0 then hL (K++L)else[]
noncomputable def BJ (K L:List Pt) (k l:Int):Int:=if dM K L k l=0 then iZ k l else 0
section
variable {K L:List Pt} {k l:Int}
theorem Im (h:ct K k≠0):dM K L k l=ct K k:=if_pos h
theorem Io (h:ct K k=0) (h2:ct L l≠0):dM K L k l=ct L l:=by unfold dM; rw[if_neg (λg=>g h),if_pos h2]
theorem Ip (h:ct K k=0) (h2:ct L l=0) (h3:(hL (K++L)).length>10):dM K L k l=4:=by unfold dM; rw[if_neg (λg=>g h),if_neg (λg=>g h2),if_pos h3]
theorem Iq (h:ct K k=0) (h2:ct L l=0) (h3:¬(hL (K++L)).length>10):dM K L k l=0:=by unfold dM; rw[if_neg (λg=>g h),if_neg (λg=>g h2),if_neg h3]
theorem Gj {i:Nat} (hi:i<2) (h:∀q,q<i->ct (eD K L q) (if q=0 then k else l)=0) (he:ct (eD K L i) (if i=0 then k else l)≠0):dM K L k l=ct (eD K L i) (if i=0 then k else l):=by
 match i,hi with
 |0,_=>exact Im he
 |1,_=>exact Io (h 0 (by decide)) he
theorem qW (h:dM K L k l≠0):∀w v,pS [⟨false,1,bg (.slice none 0 0)⟩,⟨false,1,pI 0⟩] w v->eR (sA K L k l) (BJ K L k l) w v:=by
 unfold sA BJ
 rw[if_neg h,if_neg h]
 rintro w v ⟨cs,rfl,h1,h2,h3,h4,h5⟩
 refine⟨cs,rfl,h1,?_,h3,h4,h5⟩
 have h2:aq false (cs.take 1)=.slice none 0 0:=h2
 show bz 2 true 0 _ w (aq false (cs.take 1))
 rw[h2]
 exact⟨none,0,rfl,Nat.le_refl _,Nat.zero_le _,λh=>absurd h (Nat.lt_irrefl 0)⟩
theorem Ao (h:dM K L k l=0):∀w v,eR (hL (K++L)) (iZ k l) w v->eR (sA K L k l) (BJ K L k l) w v:=by
 unfold sA BJ
 rw[if_pos h,if_pos h]
 exactλ_ _ h=>h
end
set_option maxHeartbeats 2000000 in
theorem Dr {K L:List Pt} {k l:Int} (h:K.length<=1000/\L.length<=1000):K2 Tryz.prog 7 (eR K k) (eR L l) (fl (eR (sA K L k l) (BJ K L k l)) (pI (dM K L k l))):=by
 intro M w0 v0 v1 hM hv0 jw
 have hT:∀i,(eD K L i).length<=1000:=λi=>by unfold eD; split<;>omega
 refine rZ (N:=43) Tryz.func7 rfl rfl rfl hM hv0 jw λa hI=>?_
 refine bk hI 4 [⟨4,4,some 2,none,.ptr,24,2,true,pv _,[]⟩] [] [Uc 0 2 _,Uc 1 3 _,Uc 3 5 _] .z (.kk .z) ⟨vh 2 true (hf:=bG _ _),vh 2 true (hf:=bG _ _),tn [.n,.i],mv,trivial⟩ (.k .z) (.oF (.k .z)) λa w hI=>?_
 refine au ?_
 refine bk hI 5 [] [] [Uc 0 10 _,Uc 1 11 _,Uc 2 12 _,Uc 3 13 _,Uc 4 14 _] (.k .z) (.cE .z) ⟨ld,ld,KH (zv:=.agg #[.slice none 0 0,.int .i64 0]) 24 [.slice none 0 0,.int .i64 0] (λi=>eR (eD K L i) (if i=0 then k else l)) (bG K k) (bG L l),ln,mv,trivial⟩ (.k .z) (.dx (.xY .z)) λa w hI=>?_
 refine aF ?_
 refine sF [Vz 4 4 24 2 true _] [Uz 2 _,Uz 3 _,Uz 12 _,Uz 13 _] (λ(i:Nat)=>[]) (λ(i:Nat)=>[Uz 14 (pI (i:Int))]) (λ(i:Nat)=>i<=2/\∀q,q<i->ct (eD K L q) (if q=0 then k else l)=0) (λ(i:Nat)=>2-i) (0) ⟨Nat.zero_le 2,λ_ h=>absurd h (Nat.not_lt_zero _)⟩ hI ⟨vi,trivial⟩ ⟨gi,gi,gi,gi,gc,trivial⟩ ?_
 intro i a w hi hI
 refine bk hI 1 [] [] [Uc 0 15 _] (.k .z) (.aj (.k .z)) ⟨bn,trivial⟩ (.k .z) (.aj (.kk .z)) λa w hI=>?_
 refine au ?_
 refine gA hI (λt1=>?_) (λt1=>?_)
 ·
  refine ax ?_
  refine af ?_
  refine au ?_
  refine aF ?_
  refine bk hI 4 [⟨7,7,some 2,none,.ptr,24,2,true,pv _,[(3,pv _)]⟩] [] [Uc 0 16 _,Uc 1 17 _] (.k .z) (.aj (.kk .z)) ⟨ix,ld,tn [.n,.i],mW,trivial⟩ (.k (.s .o .z)) (.aj (.fF .z)) λa w hI=>?_
  refine bk hI 3 [] [] [Uc 0 18 _,Uc 1 19 _,Uc 2 8 _] (.k (.k .z)) (.aj (.k .z)) ⟨ld,uN eY (hφ:=hT i),mv,trivial⟩ (.k (.d .z)) (.aj (.oK .z)) λa w hI=>?_
  refine bk hI 2 [] [] [Uc 0 20 _,Uc 1 21 _] (.k .z) (.aj (.kk .z)) ⟨mv,bn,trivial⟩ (.k .z) (.aj (.gX .z)) λa w hI=>?_
  refine gA hI (λt2=>?_) (λt2=>?_)
  ·
   have hE:=Gj (by omega) hi.2 t2
   refine bk hI 4 [] [] [Uc 0 22 _,Uc 1 23 _,Uc 3 5 _] (.u none [(2,pv _)] .z) (.aj (.cE .z)) ⟨bd [.o .n,.o .i] [],mv,mW,mv,trivial⟩ (.s .o .z) (.aj (.fF (.dk .z))) λa w hI=>?_
   refine aH ?_
   refine aP ?_
   refine aC ?_
   refine aC ?_
   refine aP ?_
   refine aC ?_
   exact lY hI rfl (xx (hq:=qW (by rw[hE]; exact t2))) (fR (hq:=bL hE.symm))
  ·
   have hok:ct (eD K L i) (if i=0 then k else l)=0:=Decidable.not_not.1 t2
   refine ax ?_
   refine aO ?_
   refine af ?_
   refine nw hI 2 [] [] [Uc 0 24 _,Uc 1 14 _] (.k .z) (.aj (.t 1 (.kk .z))) ⟨bn,mv,trivial⟩ (.k .z) (.aj (.cH (.k .z))) λa w hI=>?_
   refine af ?_
   exact nF (i+1) ⟨by omega,λq hq=>if e:q=i then by rw[e]; exact hok else hi.2 q (by omega)⟩ hI ⟨vc,trivial⟩ ⟨gc,gc,gc,gc,gc,trivial⟩ (by omega)
 ·
  have pA:ct K k=0:=hi.2 0 (by omega)
  have hl0:ct L l=0:=hi.2 1 (by omega)
  have Bq:=Ae pA hl0
  have hK:=cV (bZ pA)
  have SG:=cV (bZ hl0)
  refine bO ?_
  refine aB ?_
  refine aB ?_
  refine aR ?_
  refine af ?_
  refine bk hI 8 [] [] [Uc 0 25 _,Uc 1 26 _,Uc 2 27 _,Uc 3 28 _,Uc 4 29 _,Uc 5 30 _,Uc 6 31 _,Uc 7 9 _] (.k .z) (.aj (.kk .z)) ⟨fP 0 1 false,ld,fP 0 1 false,ld,KH (zv:=.slice none 0 0) 22 [.slice none 0 0] (λi=>eC (eD K L i)) ee ee,uN (wq (K:=K) (L:=L)) (hφ:=⟨by omega,by omega,by omega,by omega⟩),uN Dt (hφ:=Bq),mv,trivial⟩ (.k .z) (.dm (.d8 (.dk .z))) λa w hI=>?_
  refine au ?_
  refine bk hI 3 [] [] [Uc 0 32 _,Uc 1 33 _,Uc 2 34 _] (.k .z) (.cE .z) ⟨mv,ln,bn,trivial⟩ (.k .z) (.dx (.dk .z)) λa w hI=>?_
  refine gA hI (λt3=>?_) (λt3=>?_)
  ·
   have hE:=Ip pA hl0 (by omega)
   refine bk hI 3 [] [] [Uc 0 35 _,Uc 2 5 _] (.u none [(1,pv _)] .z) (.aj .z) ⟨bd [.o .n,.o .i] [],mW,mv,trivial⟩ (.s .o .z) (.dx (.dk .z)) λa w hI=>?_
   refine aH ?_
   refine aC ?_
   exact lY hI rfl (xx (hq:=qW (by rw[hE]; decide))) (fR (hq:=bL hE.symm))
  ·
   have hE:=Iq pA hl0 (by omega)
   refine ax ?_
   refine af ?_
   refine bk hI 9 [] [] [Uc 0 36 _,Uc 1 37 _,Uc 2 38 _,Uc 3 39 _,Uc 4 40 _,Uc 5 41 _,Uc 6 42 _,Uc 8 5 _] (.u none [(7,pv _)] .z) (.aj .z) ⟨mv,fP 1 1 false,ld,fP 1 1 false,ld,Qb,bd [.o .n,.o .i] [(0,_),(1,_)],mW,mv,trivial⟩ (.s .o .z) (.d8 (.dL .z)) λa w hI=>?_
   refine aH ?_
   exact lY hI rfl (xx (hq:=Ao hE)) (fR (hq:=bL hE.symm))
end Wx

namespace Wx
open Go Go.RowKit
set_option linter.unusedVariables false
def Ij (v:Value):Prop:=∃A m c,v=.slice A m c
theorem Ju {sz m:Nat} {ag:Bool} {E:TypeId} {f:Nat->Pred} {s:Value} {X:Nat->Prop} {w:World} (h:lN sz m ag E f s X w):Ij s:=by
 rcases h with⟨e,_,_⟩|⟨bb,cap,cur,e,_⟩
 ·exact⟨_,_,_,e⟩
 ·exact⟨_,_,_,e⟩
section
variable {P:Program} {c:cF} {V:List Vr} {G:List aQ} {a:Act} {w:World}
theorem Lf {ops:Array Oper} {id sz m n0 d:Nat} {ag:Bool} {T tx E:TypeId} {f:Nat->Pred} {p:Pred} {s:Value} {x y:Operand} {ty:TypeId} {pos:String} {aI:Array Edge} (f':Nat->Pred) (hf':∀i w v,(if i<m then f i else p) w v->i<m+1->f' i w v) (hk:V[n0]?=some (iL id sz m ag E f s):=by exact rfl) (h1:Has [0] G 0 x (bg s):=by exact hs) (h2:Has [0] G 0 y (bz sz ag 1 λ_=>p):=by exact hs) (hmax:m+1<=1073741824:=by omega)
  (hnf:∀i,av (f i):=by intro i; exact xH) (hnp:av p:=by exact xH) (hfit:Fits sz ag p:=by exact qx) (hagg:ag=false->sz=1:=by intro h; first|cases h|rfl) (ht:xN P T tx E sz=true:=by kernel_rfl) (hV:bE V=true:=by kernel_rfl) (hG:cw G=true:=by kernel_rfl) (hu:eu V id n0=true:=by kernel_rfl)
  (hd':decide (d<c.N)=true:=by kernel_rfl) (C9:(V.all λy=>y.slot != d)=true:=by kernel_rfl) (hid:(id != d)=true:=by kernel_rfl) (EU:(G.all λe=>e.slot != d)=true:=by kernel_rfl):
  ∀a w,Inv c V [] G none_ a w->bR P ops ⟨some d,.call ⟨.builtin .append,#[x,y],#[T,tx]⟩,ty,pos,aI,none⟩ a w (λa w=>∃s',Ij s'/\Inv c (V.set n0 (iL id sz (m+1) ag E f' s')) [] (⟨none,none,d,bg s'⟩::G) none_ a w):=by
 rintro a w ⟨β,hI⟩
 have hx0:=List.mem_of_getElem? hk
 have hO:=(aG rfl).1 (hI.var _ hx0 rfl)
 have hB:aL (minus (own c V none_ β) (β id)) (λw=>lN sz m ag E f s (β id) w) w:=hO.2
 have FH:∀k,β id k->∀o,own c V none_ β k o:=λk hk o=>.inr ⟨_,hx0,rfl,hk,Nat.zero_le _⟩
 obtain⟨w',X',s',hr,hle,Hw,hgr⟩:=sX (ty:=ty) (yv:=a.eval y) (aS hI) FH hB.out (h2.spec hI iS) (jA ht) hagg hfit hnf hnp hmax
 have ex:a.eval x=s:=(h1.spec hI iS).out
 rw[<-ex]at hr
 have hn':∀i,av (if i<m then f i else p):=λi=>by by_cases h:i<m<;>simp only[h,if_true,if_false]; exact hnf i; exact hnp
 refine .of rfl (de hr ⟨s',Ju hgr,gZ β id X',?_⟩)
 have hm:=hI.move (B':=X') (R':=E7 sz (m+1) ag E f' s') (w':=w') hV hG hk (ew hu) hle Hw (fB hgr) ?_
 ·refine hm.mK (of_decide_eq_true hd') (λx hx=>?_) (λe he=>by simpa using List.all_eq_true.1 EU e he) λ_ _=>rfl
  rcases List.mem_or_eq_of_mem_set hx with hx|rfl
  ·simpa using List.all_eq_true.1 C9 x hx
  ·simpa using hid
 ·intro w'' he
  have jL:cQ (minus (own c V none_ β) (β id)) w':=λk o hk=>by
   obtain⟨k1,k2⟩:=aS hI k o hk.1
   exact⟨Nat.lt_of_lt_of_le k1 hle.size,λu eF=>k2 u (by rw[<-World.cell?_of_block (w:=w) (w':=w') (a:=⟨k,o,none⟩) (hle.block k k1 hk.2)]; exact eF)⟩
  have hb:∀k,X' k->w''.heap[k]?=w'.heap[k]?:=λk hk=>he.block k (fB hgr k hk).1 λo ho=>(Hw k hk).elim ho.2 λh=>absurd (aS hI k o ho.1).1 (Nat.not_lt.2 h)
  refine(hgr.keep hn' jL he hb).imp (λh=>h) ?_
  rintro⟨bb,cap,cur,j1,j2,j3,j4,j5,j6,j7,j8⟩
  exact⟨bb,cap,cur,j1,j2,j3,j4,j5,j6,j7,λi hi=>hf' i _ _ (j8 i hi) hi⟩
end
end Wx
