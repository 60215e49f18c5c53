import Derived.Test.YtkcceahelokheaaGreatJLT38
namespace Wx
def nu (A:List (List Rat)) (k:Nat):List Rat:=A.map λr=>r.getD k 0
theorem vT (A:List (List Rat)) (k:Nat):(nu A k).length=A.length:=List.length_map ..
variable {A:List (List Rat)} {k:Nat}
theorem Lu {i:Nat} (h:i<A.length):(nu A k).getD i 0=(A.getD i []).getD k 0:=by
 unfold nu
 rw[List.getD_eq_getElem?_getD,List.getElem?_map,List.getElem?_eq_getElem h,List.getD_eq_getElem?_getD,List.getD_eq_getElem?_getD,List.getElem?_eq_getElem h]
 simp[List.getD_eq_getElem?_getD]
def Cx (A:List (List Rat)):List (List Rat):=(List.range (A.getD 0 []).length).map (nu A)
theorem Nj (h:k<(A.getD 0 []).length):(Cx A).getD k []=nu A k:=by
 unfold Cx
 rw[List.getD_eq_getElem?_getD,List.getElem?_map,List.getElem?_range h]
 rfl
def mX (A:List (List Rat)) (n k j:Nat):List (List Rat):=(List.range n).map λi=>if i<k then nu A i else if i=k then(nu A i).take j else[]
section
variable {A:List (List Rat)} {n k j:Nat}
theorem N5:(mX A n k j).length=n:=by unfold mX; rw[List.length_map,List.length_range]
theorem yP {i:Nat} (h:i<n):(mX A n k j).getD i []=if i<k then nu A i else if i=k then(nu A i).take j else[]:=by
 unfold mX
 rw[List.getD_eq_getElem?_getD,List.getElem?_map,List.getElem?_range h]
 rfl
theorem Lr:mX A n 0 0=List.replicate n []:=by
 unfold mX
 apply List.ext_getElem?
 intro i
 rw[List.getElem?_map,List.getElem?_replicate]
 by_cases h:i<n
 ·rw[List.getElem?_range h,if_pos h]
  show some (if i<0 then _ else if i=0 then(nu A i).take 0 else[])=_
  rw[if_neg (Nat.not_lt_zero _),List.take_zero]
  split<;>rfl
 ·rw[List.getElem?_eq_none (by simpa using h),if_neg h]
  rfl
theorem Lp:mX A n k A.length=mX A n (k+1) 0:=by
 unfold mX
 refine List.map_congr_left λi _=>?_
 by_cases h1:i<k
 ·rw[if_pos h1,if_pos (by omega)]
 ·rw[if_neg h1]
  by_cases h2:i=k
  ·rw[if_pos h2,if_pos (by omega),<-vT A i,List.take_length]
  ·rw[if_neg h2,if_neg (by omega)]
   split
   ·rw[List.take_zero]
   ·rfl
theorem Lq (hk:k<n) (hj:j<A.length):(mX A n k j).set k ((mX A n k j).getD k []++[(A.getD j []).getD k 0])=mX A n k (j+1):=by
 rw[yP hk,if_neg (Nat.lt_irrefl _),if_pos rfl]
 apply List.ext_getElem?
 intro i
 by_cases h:i=k
 ·subst h
  rw[List.getElem?_set_self (by rw[N5]; exact hk)]
  unfold mX
  rw[List.getElem?_map,List.getElem?_range hk]
  show _=some (if i<i then _ else if i=i then(nu A i).take (j+1)else[])
  rw[if_neg (Nat.lt_irrefl _),if_pos rfl,List.take_add_one]
  congr 2
  have Fg:j<(nu A i).length:=by rw[vT]; exact hj
  rw[<-Lu hj,List.getElem?_eq_getElem Fg,List.getD_eq_getElem?_getD,List.getElem?_eq_getElem Fg]
  rfl
 ·rw[List.getElem?_set_ne (Ne.symm h)]
  unfold mX
  rw[List.getElem?_map,List.getElem?_map]
  cases hr:(List.range n)[i]? with
  |none=>rfl
  |some q=>
   have hq:q=i:=by
    have:=List.getElem?_eq_some_iff.1 hr
    obtain⟨_,e⟩:=this
    simpa using e.symm
   subst hq
   show some (if q<k then _ else if q=k then _ else _)=some (if q<k then _ else if q=k then _ else _)
   by_cases h1:q<k
   ·rw[if_pos h1,if_pos h1]
   ·rw[if_neg h1,if_neg h,if_neg h1,if_neg h]
theorem N4:mX A (A.getD 0 []).length (A.getD 0 []).length 0=Cx A:=by
 unfold mX Cx
 refine List.map_congr_left λi hi=>?_
 rw[if_pos (List.mem_range.1 hi)]
end
end Wx

namespace Wx
def uh (b:List Rat):List (List Rat):=b.map λx=>[x]
theorem yX (b:List Rat):(uh b).length=b.length:=List.length_map ..
theorem yV {b:List Rat} {i:Nat} (h:i<b.length):(uh b).getD i []=[b.getD i 0]:=by
 unfold uh
 rw[dP,List.getElem?_map,List.getElem?_eq_getElem h,dP,List.getElem?_eq_getElem h]
 rfl
end Wx

namespace Wx
def xQ (A:List (List Rat)) (b:List Rat):List Rat:=nu (tI A (uh b)) 0
def tY (A:List (List Rat)) (b:List Rat):Prop:=zm (mW A (uh b)) A.length
section
variable {A B:List (List Rat)} {b:List Rat} {m j:Nat}
theorem iI:(tI A B).length=A.length:=by unfold tI; rw[jY,nw,fX]
variable {i:Nat}
theorem Gd (h:i<A.length):(tI A B).getD i []=((Kb (mW A B) A.length).getD i []).drop A.length:=by
 unfold tI
 rw[l8 (by rw[nw,fX]; exact h),if_pos h]
theorem M6 (hA:gE A.length A) (hB:∀i,i<A.length->(B.getD i []).length=m):gE m (tI A B):=λi hi=>by
 rw[iI]at hi
 have h:=(Bw hA hB).gj A.length (by rw[fX]; exact Nat.le_refl _) i (by rw[nw,fX]; exact hi)
 rw[Gd hi,List.length_drop,h]
 omega
theorem S4 (hA:qu j A) (hB:qu j B) (h1:1<=j):qu (uv j A.length) (tI A B):=λi k=>by
 have h:=(JO hA hB h1).gj h1 A.length (by rw[fX]; exact Nat.le_refl _)
 rcases Nat.lt_or_ge i A.length with hi|hi
 ·rw[Gd hi,dP,List.getElem?_drop,<-dP]
  exact h i _
 ·rw[qH (X:=tI A B) (by rw[iI]; exact hi)]
  exact nr.mono (yc h1 _)
theorem vU (h:i<b.length):((uh b).getD i []).length=1:=by rw[yV h]; rfl
theorem C3 (hb:∀k,aZ j (b.getD k 0)) (h1:1<=j):qu j (uh b):=λi k=>by
 rcases Nat.lt_or_ge i b.length with hi|hi
 ·rw[yV hi]
  cases k with
  |zero=>exact hb i
  |succ k=>exact nr.mono h1
 ·rw[qH (X:=uh b) (by rw[yX]; exact hi)]
  exact nr.mono h1
end
end Wx

namespace Wx
set_option maxRecDepth 100000
set_option maxHeartbeats 1000000
open Go Go.RowKit Go.Proofs
set_option linter.unusedVariables false
attribute [local irreducible] OpOk
variable {ms:Nat->List Rat} {S:List bK} {x:Rat} {m k:Nat}
theorem yE:(qn ms S x m k).length=3:=dS
theorem p8 {m v:List Rat}:(tL m v).length=3:=dS
theorem Gn:List.replicate 3 0=qn ms S x m 0:=rfl
theorem Gm:xy (qn ms S x m k) (ZV ms S k) ((tw (ia S k) (ia S (k+1))).getD m 0*x)=qn ms S x m (k+1):=gz λu hu=>by
 unfold qn
 rw[eM hu]
 rfl
def Nf (j:Nat):Nat:=1+3*(30*j+2705)
variable {n j:Nat}
theorem Qx (h:lJ n ms S) (hm:jQ n j ms) (hk:k<S.length):∀t i,i<=3->aZ (Nf j) (Ar (su ms S k) (BM (ms (ai S k).gP.toNat) (ai S k).p (ai S k).q) t i):=by
 intro t i hi
 have h1:=h.gP k hk
 have hq:=KL (ms:=ms) (S:=S) (i:=k) (λq=>hm.bd _ q (by omega)) hm.j1 (h.dir k hk)
 have hf:=OB (m:=ms (ai S k).gP.toNat) (λq=>hm.bd _ q (by omega)) (h.dir k hk)
 refine(D6 hq hf t i).mono ?_
 unfold Nf
 have:=Nat.mul_le_mul_right (28*j+2321+(2*j+300)+1) hi
 omega
theorem Qw {n j jw:Nat} {ms:Nat->List Rat} {S:List bK} {x:Rat} (h:lJ n ms S) (hm:jQ n j ms) (hx:aZ jw x) (m t:Nat):∀k,k<=S.length->aZ (1+k*(Nf j+(236+jw)+1)) (WD ms S x m t k)
 |0,_=>by rw[Nat.zero_mul]; exact Eg
 |k+1,hk=>by
  have hv:aZ (Nf j) ((ZV ms S k).getD t 0):=by
   by_cases ht:t<3
   ·show aZ _ ((tL _ _).getD t 0)
    unfold tL
    rw[eM ht]
    exact Qx h hm (by omega) t 3 (Nat.le_refl _)
   ·rw[List.getD_eq_getElem?_getD,List.getElem?_eq_none (by show(tL _ _).length<=t; rw[p8]; omega)]
    exact Eg.mono (by unfold Nf; omega)
  exact((Qw h hm hx m t k (by omega)).qx (hv.mul ((Ks (qP h.thin (by omega)) (qP h.thin hk) m).mul hx))).mono (by(have e:(k+1)*(Nf j+(236+jw)+1)=k*(Nf j+(236+jw)+1)+(Nf j+(236+jw)+1):=Nat.succ_mul _ _); omega)
theorem Me {jw J:Nat} (h:lJ n ms S/\jQ n j ms/\j<=100000/\jw<=1000000/\1<=J/\J<=10000000/\1<=jw/\∀m t k,m<2->t<3->k<=S.length->aZ J (WD ms S x m t k)):K3 Tryz.prog 62 (aA 48 true n λi=>pV au j (ms i)) (aA 4 true S.length λi=>cP (ai S i)) (pR jw x) (cN (pV au J (qn ms S x 0 S.length)) (pV au J (qn ms S x 1 S.length))):=by
 intro M w0 v0 v1 v2 hM hv0 eI hv2
 have hj:=h.2.2
 have fA:=h.2.1.j1
 have Xc:=h.1.thin
 have hJ:Nf j=1+3*(30*j+2705):=rfl
 refine adS (N:=59) Tryz.func62 rfl rfl hM hv0 eI hv2 λa hI=>?_
 refine bf hI 5 [⟨6,6,some 3,none,.ptr,43,9,true,pv _,[]⟩,⟨7,7,some 4,none,.ptr,43,9,true,pv _,[]⟩] [] [Uc 0 3 _,Uc 1 4 _,Uc 2 5 _] .z (.bS .z) ⟨AK 1 false,AK 1 false,AK 3 true,lE J 3,lE J 3,trivial⟩ (.k (.k .z)) (.dw (.kk .z)) λa w hI=>?_
 refine az ?_
 refine bf hI 2 [] [] [Uc 0 13 _,Uc 1 14 _] (.k (.k .z)) (.bS .z) ⟨ld,mS wj,trivial⟩ (.k (.k .z)) (.cA (.k .z)) λa w hI=>?_
 refine aC ?_
 refine Ay (y0:=15) (y1:=16) (τ:=Unit) (λk t=>[Vz 6 6 43 9 true (pV au J (qn ms S x 0 k)),Vz 7 7 43 9 true (pV au J (qn ms S x 1 k))]) (λ_ _=>[eH 3 3 λ_ _ _=>False]) [Uz 3 _,Uz 4 _,Uz 5 _,Uz 14 _] [3,4,5,6,7,14] () (hI.cv ⟨vC (cq Gn (Nat.le_refl _)),vC (cq Gn (Nat.le_refl _)),trivial⟩ ⟨gc,gc,gc,gc,trivial⟩) rfl (λ_ _=>by kernel_rfl) (λ_ _=>by kernel_rfl) (by kernel_rfl) (by kernel_rfl) (by kernel_rfl) (λk t w0 M1 B1 a w D l r hk hr hI=>?_) (λt w D l r hI=>?_) (λcd t w D l r hI=>(wg hI).elim)
 ·
  dsimp only[List.append,List.map,HAppend.hAppend,Append.append,QV]at hI
  refine bf hI 1 [] [] [Uc 0 8 _] (.k (.k (.k .z))) (.k8 (.ah .z)) ⟨mv,trivial⟩ (.k (.k (.k .z))) (.k8 (.ah (.k .z))) λa w hI=>?_
  refine qq hI 2 [⟨9,9,some 0,none,.ptr,94,6,true,pv _,[(1,pv _)]⟩] [] [] (.k (.k (.k .z))) (.k8 (.ah (.k .z))) ⟨fB [.r,.r],dM,trivial⟩ (.k (.k (.k (.s .o .z)))) (.k8 (.ah (.k .z))) λa w hI=>?_
  refine ae ?_
  refine GU hI 2 hr (λw hI=>?_)
  dsimp only[List.set]at hI
  have LU:=h.1.gP k hk
  have Nz:=h.1.m16 (ai S k).gP.toNat (by omega)
  have Xa:=h.1.dir k hk
  have hm4:=jT (m:=ms (ai S k).gP.toNat)
  have hm5:(tw (ia S k) (ia S (k+1))).length=3:=rfl
  refine aC ?_
  refine mR hI [0,0,0,6,14,30,63,127,0,511] [⟨10,10,some 8,none,.ptr,97,48,true,pv _,[(9,pv _)]⟩] [] [Uc 0 17 _,Uc 1 18 _,Uc 2 19 _,Uc 3 20 _,Uc 4 21 _,Uc 5 22 _,Uc 6 23 _,Uc 7 24 _] (.k (.k (.k (.k .z)))) (.k8 (.ah (.k .z))) ⟨ld,ld,mv,ix,fP 0 1 false,ld,ix,ld,fB [.r,.r,.r,.r,.r,.r,.r,.r,.r,.r,.r,.r,.r,.r,.r,.r],dM,trivial⟩ (.k (.k (.k (.k (.s .o .z))))) (.k8 (.ah (.dx (.bh (.d .z))))) λa w hI=>?_
  refine mR hI [0,1,0,0,12,28,60,127,0,0,0,1536,3584,7680,16383,32767,0,131071] [⟨11,11,some 16,none,.ptr,43,9,true,pv _,[(17,pv _)]⟩] [] [Uc 0 25 _,Uc 1 26 _,Uc 2 27 _,Uc 3 28 _,Uc 4 29 _,Uc 5 30 _,Uc 6 31 _,Uc 7 32 _,Uc 8 33 _,Uc 9 34 _,Uc 10 35 _,Uc 11 36 _,Uc 12 37 _,Uc 13 38 _,Uc 14 39 _,Uc 15 40 _] (.k (.k (.k (.k (.k .z))))) (.k8 (.ah (.k .z))) ⟨ld,mS yn,ld,mv,ix,fP 1 2 true,ld,pq uG,ld,ld,mv,ix,fP 1 2 true,ld,pq VP,pq (Kl (m:=su ms S k) (v:=BM (ms (ai S k).gP.toNat) (ai S k).p (ai S k).q) (i:=4*(7*j+1)+2400) (j:=2*j+300) (J:=Nf j)) (hφ:=⟨nP,rfl,by omega,by omega,λt i _ hi=>Qx h.1 h.2.1 hk t i hi⟩),fB [.r,.r,.r],dM,trivial⟩ (.k (.k (.k (.k (.d (.s .o .z)))))) (.k8 (.ah (.dx (.d8 (.bh (.d .z)))))) λa w hI=>?_
  refine bf hI 4 [⟨12,12,some 2,none,.ptr,42,9,true,pv _,[(3,pv _)]⟩] [] [Uc 0 41 _,Uc 1 42 _] (.k (.k (.k (.k (.k .z))))) (.k8 (.ah (.k .z))) ⟨ld,mS BZ,fB [.r,.r,.r],dM,trivial⟩ (.k (.k (.k (.k (.k (.s .o .z)))))) (.k8 (.ah (.kdd .z))) λa w hI=>?_
  refine QK hI [0,0,0,4,0,28,63,0,0,0,512,0,3711,8191,16383,32767] [] [⟨some 2,45,12,0,True⟩,⟨some 9,52,12,3,True⟩] [Uc 0 43 _,Uc 1 44 _,Uc 3 46 _,Uc 4 47 _,Uc 5 48 _,Uc 6 49 _,Uc 7 50 _,Uc 8 51 _,Uc 10 53 _,Uc 11 54 _,Uc 12 55 _,Uc 13 56 _] (.u none [(14,pv _)] (.u none [(15,pv _)] (.k (.k (.k (.k .z)))))) (.k8 (.ah (.k .z))) ⟨Zw,ld,fa,lV 0,ld,fZ cg,WS (Dw (v:=qn ms S x 0 k) (w':=ZV ms S k) (r:=(tw (ia S k) (ia S (k+1))).getD 0 0*x) (i:=J) (j:=Nf j) (k:=6*28+68+jw) (J:=J)) (hφ:=⟨yE,p8,Nat.le_refl _,by omega,by omega,λt ht=>by rw[show(qn ms S x 0 k).getD t 0=WD ms S x 0 t k from eM ht]; exact h.2.2.2.2.2.2.2 0 t (k+1) (by omega) ht hk⟩),Zw,ld,fa,lV 1,ld,fZ cg,WS (Dw (v:=qn ms S x 1 k) (w':=ZV ms S k) (r:=(tw (ia S k) (ia S (k+1))).getD 1 0*x) (i:=J) (j:=Nf j) (k:=6*28+68+jw) (J:=J)) (hφ:=⟨yE,p8,Nat.le_refl _,by omega,by omega,λt ht=>by rw[show(qn ms S x 1 k).getD t 0=WD ms S x 1 t k from eM ht]; exact h.2.2.2.2.2.2.2 1 t (k+1) (by omega) ht hk⟩),dM,dM,trivial⟩ (.s .o (.s .o (.k (.k (.d (.d .z)))))) (.k8 (.ah (.dx (.d8 (.d .z))))) λa w hI=>?_
  refine aG ?_
  exact⟨(),hI.cv ⟨vC (cq Gm (Nat.le_refl _)),vC (cq Gm (Nat.le_refl _)),vA,trivial⟩ ⟨gc,gc,gc,gc,gq 6,gq 7,gq 8,gq 9,gq 10,gq 11,trivial⟩⟩
 ·
  dsimp only[List.append,HAppend.hAppend,Append.append]at hI
  refine aG ?_
  refine ae ?_
  refine Ee ?_
  refine mR hI [0,0,1,7] [] [] [Uc 0 57 _,Uc 1 58 _] (.u none [(2,pv _)] (.u none [(3,pv _)] (.k .z))) (.ah .z) ⟨Zw,Zw,dM,dM,trivial⟩ (.s .o (.s .o (.k .z))) (.bh (.dd .z)) λa w hI=>?_
  refine aL ?_
  exact Yi hI 2 rfl r7 r7
end Wx

namespace Wx
open Go Go.RowKit
section
variable {P:Program} {ops:Array Oper} {ms:List Nat} {c:fT} {V:List Vr} {A:List Al} {G:List bz} {i:Nat}{d:Nat} {x y z:Operand} {ty:TypeId} {pos:String} {aft:Array Edge}{t u:TypeId} {m n:Int} {k:IntKind}
theorem ZC (h1:Has ms G i x (bg (.int k m))) (h2:Has ms G i y (bg (.int k n))) (hp:Post G i (pB (m==n))):OpOk P ops ms c V A G i ⟨some d,.binOp .eql t x y u,ty,pos,aft,none⟩:=dJ h1 h2 (λ_=>by cases k<;>rfl) hp
theorem ZE (h1:Has ms G i x (bg (.int k m))) (h2:Has ms G i y (bg (.int k n))) (hp:Post G i (pB (m != n))):OpOk P ops ms c V A G i ⟨some d,.binOp .neq t x y u,ty,pos,aft,none⟩:=dJ h1 h2 (λ_=>by cases k<;>rfl) hp
theorem bl {o:Oper} (h:OpOk P ops ms c V A G i o:=by
 first
 |exact PG hs hs (pt rfl)
 |exact PF hs hs (pt rfl)
 |exact PE hs hs (pt rfl)
 |exact PD hs hs (pt rfl)
 |exact ZC hs hs (pt rfl)
 |exact ZE hs hs (pt rfl)
 |exact PB hs hs (pt rfl)
 |exact PJ hs hs (pt rfl)
 |exact PI hs hs (pt rfl)):OpOk P ops ms c V A G i o:=h
theorem ye {j:Nat} {b:Bool} {op:Op} {dst:Option Nat} (h:OpOk P ops ms c V A G i ⟨dst,op,ty,pos,aft,none⟩) (hq:nJ j G=some (pB b):=by exact rfl) (hj:(G.all λe=>e.tag != some j||((ms.getD i 0).testBit j&&kY ms i e.till))=true:=by kernel_rfl):OpOk P ops ms c V A G i ⟨dst,op,ty,pos,aft,some (j,b)⟩:=ZG hq rfl h hj
variable {T E:TypeId} {sz:Nat} {agg:Bool}
theorem Zo {n:Nat} {f:Nat->Pred} (ht:mV P T E sz) (h:Has ms G i x (aA sz agg n f):=by exact hs) (hy:Has ms G i y (pI m):=by exact hs) (hp:Post G i (cZ sz agg (f m.toNat)):=by exact pt rfl) (h0:0<=m:=by omega) (h1:m<n:=by omega) (hA:(A.all λq=>q.tag != some i)=true:=by kernel_rfl):OpOk P ops ms c V A G i ⟨some d,.indexAddr T x y,ty,pos,aft,none⟩:=jk h hy ht h0 h1 hA hp
theorem Xi {n k:Nat} {f:Nat->Pred} (ht:mV P T E sz) (h:Has ms G i x (aA sz agg n f):=by exact hs) (hy:Has ms G i y (pI (k:Int)):=by exact hs) (hp:Post G i (cZ sz agg (f k)):=by exact pt rfl) (h1:k<n:=by omega) (hA:(A.all λq=>q.tag != some i)=true:=by kernel_rfl):OpOk P ops ms c V A G i ⟨some d,.indexAddr T x y,ty,pos,aft,none⟩:=jk h hy ht (by omega) (by omega) hA (by rw[Int.toNat_natCast]; exact hp)
variable {f:FuncId} {ts:Array TypeId} {p p1:Pred}
theorem ce1 (hn:aK p) (hc:∀w v1,p1 w v1->Calls P f #[v1] w (ie p w)) (h1:Has ms G i x p1:=by exact hs) (hp:Post G i p:=by exact pt rfl) (hf:aR P f:=by exactλ_ _=>by kernel_rfl):OpOk P ops ms c V A G i ⟨some d,.call ⟨.value (.func f),#[x],ts⟩,ty,pos,aft,none⟩:=q7 hf hn h1 hp hc
variable {p2:Pred}
theorem ce2 (hn:aK p) (hc:∀w v1 v2,p1 w v1->p2 w v2->Calls P f #[v1,v2] w (ie p w)) (h1:Has ms G i x p1:=by exact hs) (h2:Has ms G i y p2:=by exact hs) (hp:Post G i p:=by exact pt rfl) (hf:aR P f:=by exactλ_ _=>by kernel_rfl):OpOk P ops ms c V A G i ⟨some d,.call ⟨.value (.func f),#[x,y],ts⟩,ty,pos,aft,none⟩:=iG hf hn h1 h2 hp hc
theorem WT (hc:∀M w v1,cL M w->aO M (λw=>p1 w v1) w->Calls P f #[v1] w (bH M p w)) (h1:Has ms G i x p1:=by exact hs) (hp:Post G i p:=by exact pt rfl) (hf:aR P f:=by exactλ_ _=>by kernel_rfl):OpOk P ops ms c V A G i ⟨some d,.call ⟨.value (.func f),#[x],ts⟩,ty,pos,aft,none⟩:=Cb hf h1 hp hc
theorem XL (hc:∀M w v1 v2,cL M w->aO M (λw=>p1 w v1) w->aO M (λw=>p2 w v2) w->Calls P f #[v1,v2] w (bH M p w)) (h1:Has ms G i x p1:=by exact hs) (h2:Has ms G i y p2:=by exact hs) (hp:Post G i p:=by exact pt rfl) (hf:aR P f:=by exactλ_ _=>by kernel_rfl):OpOk P ops ms c V A G i ⟨some d,.call ⟨.value (.func f),#[x,y],ts⟩,ty,pos,aft,none⟩:=wF hf h1 h2 hp hc
end
end Wx

namespace Wx
open Go Go.RowKit
end Wx

namespace Wx
open Go Go.RowKit
section
variable {P:Program} {c:fT} {V:List Vr} {G:List bz} {a:Act} {w:World} {o:Oper}
def Um (o:Oper) (N:Nat) (nv:List Vr) (ne:List bz) (V1:List Vr) (G1:List bz):Bool:=o.guard.isNone&&(iq nv [] ne&&tU N [o] V1 [] G1)
variable {ops:Array Oper}
theorem ru {V1 V2:List Vr} {G1 G2:List bz} (h:Inv c V [] G none_ a w) (nv:List Vr) (ne:List bz) (hV:tQ nv V V1) (hG:l6 ne G G1) (hb:Um o c.N nv ne V1 G1=true)
  (hs:OpOk P #[o] [0] c V1 [] G1 0 o) (kV:dV V1 V2) (kG:aF G1 G2):bV P ops o a w (Inv c V2 [] G2 none_):=by
 unfold Um iq at hb
 simp only[Bool.and_eq_true]at hb
 obtain⟨hg,⟨Ei,Vt,hn3⟩,hwf⟩:=hb
 obtain⟨kv,e1⟩:=nH kV.sub
 obtain⟨kg,e2⟩:=nH kG.sub
 exact single h (by cases hgg:o.guard with|none=>rfl|some x=>rw[hgg]at hg; cases hg) (hV.strip Ei) rfl (hG.strip hn3) hwf hs kv kg e1 e2
variable {Λ:Type} {C:Λ->Prop} {J:Λ->Act->World->Prop}
theorem Oo {J':Λ->Act->World->Prop} (h:∀l,C l->∀a w,J l a w->bV P ops o a w (J' l)):∀a w,(∃l,C l/\J l a w)->bV P ops o a w (λa w=>∃l,C l/\J' l a w):=Og h λh hm=>h.mono hm
theorem bV.exC {C':Λ->Prop} (h:bV P ops o a w (λa w=>∃l,C l/\J l a w)) (hc:∀l,C l->C' l):bV P ops o a w (λa w=>∃l,C' l/\J l a w):=h.mono λ_ _ ⟨l,h1,h2⟩=>⟨l,hc l h1,h2⟩
end
end Wx

namespace Wx
open Go Go.RowKit Go.Proofs
theorem bw:Ty Tryz.prog 153 false 1:=⟨λ_=>by kernel_rfl,λ_=>by kernel_rfl,by decide⟩
theorem CA:∀w,(zeroValue 153).run Tryz.prog w=.ok (.slice none 0 0) w:=λ_=>by kernel_rfl
theorem r6:Ty Tryz.prog 152 false 1:=⟨λ_=>by kernel_rfl,λ_=>by kernel_rfl,by decide⟩
theorem sX:tW Tryz.prog 153 153 40 3:=jt (by kernel_rfl)
theorem Ex:tW Tryz.prog 152 152 153 1:=jt (by kernel_rfl)
end Wx

namespace Wx
attribute [local irreducible] OpOk
set_option maxRecDepth 100000
open Go Go.RowKit Go.Proofs
set_option linter.unusedVariables false
variable {H:List Bk} {L1 L2:List Rat} {b1 b2 s1 s2 n1 n2 c1 c2 p1 p2 j j2 jf:Nat} {f:Rat}
theorem MJ (m1:(⟨b1,3,true,bq L1 p1⟩:Bk)∈H) (m2:(⟨b2,3,true,bq L2 p2⟩:Bk)∈H) (hne:b2≠b1) (k1:s1+n1<=L1.length) (k2:s2+n2<=L2.length) (k12:n2<=n1) (kn:n1<=1000000) (q1:∀k,k<n1->aZ j (L1.getD (s1+k) 0)) (q2:∀k,k<n2->aZ j2 (L2.getD (s2+k) 0)) (qf:aZ jf f) (hj:j+(jf+j2)+j+(jf+j2)+1<=100000000):∀(M:Nat->Nat->Prop) (B:Nat->Prop) (w:World) (v0 v1 v2:Value),cL M w->(∀k,B k->∀o,¬M k o)->dn B w H->aO (plus M B) (λw=>(bg (.slice (some ⟨b1,s1*3,none⟩) n1 c1)) w v0) w->aO (plus M B) (λw=>(bg (.slice (some ⟨b2,s2*3,none⟩) n2 c2)) w v1) w->aO (plus M B) (λw=>(au f) w v2) w->Calls Tryz.prog 187 #[v0,v1,v2] w (AH M B (bg (.tuple #[])) (uC H b1 (bq (if f=0 then L1 else gN L1 s1 L2 s2 f n2) p1)) w):=by
 intro M B w0 v0 v1 v2 hM H7 hH hv0 eI hv2
 have Xd:∀e,e∈H->e.b=b1->e.items=bq L1 p1:=λe he hb=>BW hH he m1 hb
 refine ug (N:=29) (id:=29) (s:=29) Tryz.func187 rfl rfl rfl hM H7 hH (show cF (plus M B) w0 [v0,v1,v2] [⟨none,none,0,bg (.slice (some ⟨b1,s1*3,none⟩) n1 c1)⟩,⟨none,none,1,bg (.slice (some ⟨b2,s2*3,none⟩) n2 c2)⟩,⟨none,none,2,au f⟩]from⟨⟨rfl,_,rfl,hv0⟩,⟨rfl,_,rfl,eI⟩,⟨rfl,_,rfl,hv2⟩,trivial⟩) λa hI=>?_
 refine lA hI 1 [⟨5,5,some 0,none,.ptr,40,3,true,pv (au f),[]⟩] [] [] (.k .z) (.bS .z) ⟨wE 1 rfl rfl (by kernel_rfl) (by kernel_rfl) rfl rfl rfl (.tmp 2 rfl rfl) (cV _) rfl,trivial⟩ (.k (.k .z)) (.kkd .z) λa w hI=>?_
 refine wp_seq ?_
 refine lA hI 2 [] [] [Uc 0 8 (au f),Uc 1 9 _] (.k (.k .z)) (.kk .z) ⟨eW 1 rfl rfl rfl rfl (by kernel_rfl) bY rfl (.here 2 rfl),ce1 (bU _) (G8 f),trivial⟩ (.k (.k .z)) (.sq .z) λa w hI=>?_
 refine dD hI 2 rfl (λht=>?_) (λht=>?_)
 ·have t1:=of_decide_eq_true ht
  refine wp_ret ?_
  refine aB ?_
  have hI:Inv ⟨29,w0,M,B⟩ [⟨29,29,none,none,.obj,0,0,false,wJ (uC H b1 (bq (if f=0 then L1 else gN L1 s1 L2 s2 f n2) p1)),[]⟩,⟨5,5,none,none,.ptr,40,3,true,pv (au f),[]⟩] [] [⟨none,none,0,bg (.slice (some ⟨b1,s1*3,none⟩) n1 c1)⟩,⟨none,none,1,bg (.slice (some ⟨b2,s2*3,none⟩) n2 c2)⟩,⟨none,none,9,pB (decide (f=0))⟩] none_ _ _:=(hI.conv ⟨⟨0,_,_,rfl,⟨rfl,rfl,rfl⟩,rfl,λ_=>(rf (by rw[if_pos t1]; exact(oL Xd).symm))⟩,⟨1,_,_,rfl,⟨rfl,rfl,rfl⟩,rfl,λ_=>λ_ _ h=>h⟩,trivial⟩ ⟨⟨rfl,rfl,0,_,rfl,λ_ _ h=>h⟩,⟨rfl,rfl,1,_,rfl,λ_ _ h=>h⟩,⟨rfl,rfl,2,_,rfl,λ_ _ h=>h⟩,trivial⟩)
  exact Tx hI rfl hH (n0:=0) rfl (Kh _ _ _) 
 ·have t2:=of_decide_eq_false ht
  refine wp_skip ?_
  refine ae ?_
  refine lA hI 3 [] [] [Uc 0 10 _,Uc 1 11 (pI (n2:Int)),Uc 2 12 _] (.k (.k .z)) (.bS .z) ⟨mv,mI (.tmp 3 rfl rfl) (bF).under (.here 4 rfl),mv,trivial⟩ (.k (.k .z)) (.nh (.kk .z)) λa w hI=>?_
  refine wp_block ?_
  refine dL (λ(k:Nat) a w=>(k<=n2)/\Inv ⟨29,w0,M,B⟩ [⟨29,29,none,none,.obj,0,0,false,wJ (uC H b1 (bq (gN L1 s1 L2 s2 f k) p1)),[]⟩,⟨5,5,none,none,.ptr,40,3,true,pv (au f),[]⟩] [] [⟨none,none,0,bg (.slice (some ⟨b1,s1*3,none⟩) n1 c1)⟩,⟨none,none,10,bg (.slice (some ⟨b2,s2*3,none⟩) n2 c2)⟩,⟨none,none,11,pI (n2:Int)⟩,⟨none,none,12,pI (k:Int)⟩] none_ a w) (λ(k:Nat)=>n2-k) (0) ⟨Nat.zero_le _,(hI.conv ⟨⟨0,_,_,rfl,⟨rfl,rfl,rfl⟩,rfl,λ_=>(rf (by rw[Ja]; exact(oL Xd).symm))⟩,⟨1,_,_,rfl,⟨rfl,rfl,rfl⟩,rfl,λ_=>λ_ _ h=>h⟩,trivial⟩ ⟨⟨rfl,rfl,0,_,rfl,λ_ _ h=>h⟩,⟨rfl,rfl,1,_,rfl,λ_ _ h=>h⟩,⟨rfl,rfl,2,_,rfl,λ_ _ h=>h⟩,⟨rfl,rfl,3,_,rfl,(bk (by omega))⟩,trivial⟩)⟩ ?_
  intro k a w zo
  obtain⟨hp,hI⟩:=zo
  refine lA hI 1 [] [] [Uc 0 13 _] (.k (.k .z)) (.ah .z) ⟨bl,trivial⟩ (.k (.k .z)) (.ah (.k .z)) λa w hI=>?_
  refine wp_seq ?_
  refine dD hI 4 rfl (λht=>?_) (λht=>?_)
  ·have t3:=of_decide_eq_true ht
   refine wp_skip ?_
   refine ae ?_
   refine wp_seq ?_
   refine wp_block ?_
   refine lA hI 6 [⟨7,7,some 3,none,.ptr,40,3,true,pv (au 0),[(5,pv (au (L2.getD (s2+k) 0)))]⟩] [] [Uc 0 14 _,Uc 1 15 (bg (.pointer (some ⟨b2,s2*3+((k:Int)).toNat*3,none⟩))),Uc 2 16 (au (L2.getD (s2+k) 0)),Uc 4 6 _] (.k (.k .z)) (.ah (.k .z)) ⟨mv,bt (.tmp 1 rfl rfl) (.tmp 3 rfl rfl) bF (by omega) (by omega) (by kernel_rfl) (.here 6 rfl),dA (e:=⟨b2,3,true,bq L2 p2⟩) (idx:=s2+k) 0 rfl rfl rfl (by kernel_rfl) rfl (.tmp 6 rfl rfl) (l9 m2 hne) rfl (fq (by omega)) (show s2*3+((k:Int)).toNat*3=(s2+k)*3 by omega) bY (.here 7 rfl),kZ 2 rfl rfl (by kernel_rfl) (by kernel_rfl) rfl rfl rfl pc rfl rfl (by simp[iw]) rfl (λw=>ew w),mv,mJ 2 rfl rfl rfl rfl 0 rfl (by kernel_rfl) (by kernel_rfl) bY (.tmp 7 rfl rfl) (cV _),trivial⟩ (.k (.k (.s .o .z))) (.k8 (.k .z)) λa w hI=>?_
   refine srD hI [0,0,0,0,12,28,0,0,192,508,1023,2047] [] [] [Uc 0 17 _,Uc 1 18 _,Uc 2 19 _,Uc 3 20 _,Uc 4 21 (bg (.pointer (some ⟨b1,s1*3+((k:Int)).toNat*3,none⟩))),Uc 5 22 (au (L1.getD (s1+k) 0)),Uc 6 23 (au f),Uc 7 24 (au (L2.getD (s2+k) 0)),Uc 8 25 _,Uc 9 26 _,Uc 10 27 (bg (.pointer (some ⟨b1,s1*3+((k:Int)).toNat*3,none⟩)))] (.u none [(11,wJ (gH (uC H b1 (bq (gN L1 s1 L2 s2 f k) p1)) b1 (s1+k) (RX ((L1.getD (s1+k) 0)-(f*(L2.getD (s2+k) 0))))))] (.k (.k .z))) (.k8 (.k .z)) ⟨mv,mv,mv,mv,bt (.tmp 11 rfl rfl) (.tmp 12 rfl rfl) bF (by omega) (by omega) (by kernel_rfl) (.here 13 rfl),dA (e:=⟨b1,3,true,bq (gN L1 s1 L2 s2 f k) p1⟩) (idx:=s1+k) 0 rfl rfl rfl (by kernel_rfl) rfl (.tmp 13 rfl rfl) (rO m1 rfl) rfl (I8 (by omega)) (show s1*3+((k:Int)).toNat*3=(s1+k)*3 by omega) bY (.here 14 rfl),eW 1 rfl rfl rfl rfl (by kernel_rfl) bY rfl (.here 15 rfl),eW 2 rfl rfl rfl rfl (by kernel_rfl) bY rfl (.here 16 rfl),ce2 (cH _) (Tn qf (q2 k (by omega)) (by omega)) (look rfl) (look rfl),ce2 (cH _) (To (q1 k (by omega)) ((qf).mul (q2 k (by omega))) (by omega)) (look rfl) (look rfl),bt (.tmp 9 rfl rfl) (.tmp 10 rfl rfl) bF (by omega) (by omega) (by kernel_rfl) (.here 19 rfl),kA (e:=⟨b1,3,true,bq (gN L1 s1 L2 s2 f k) p1⟩) (idx:=s1+k) (it:=RX ((L1.getD (s1+k) 0)-(f*(L2.getD (s2+k) 0)))) 0 rfl rfl rfl (by kernel_rfl) 0 rfl (by kernel_rfl) (by kernel_rfl) rfl (.tmp 19 rfl rfl) (rO m1 rfl) rfl (F8 (show s1+k<(gN L1 s1 L2 s2 f k).length by rw[oW]; omega)) (show s1*3+((k:Int)).toNat*3=(s1+k)*3 by omega) bY (.tmp 18 rfl rfl) (cV _),trivial⟩ (.s .o (.k (.k .z))) (.k8 (.k8 (.ah .z))) λa w hI=>?_
   refine aG ?_
   refine ae ?_
   refine Qq hI 2 [] [] [Uc 0 28 _,Uc 1 12 _] (.k (.k (.k .z))) (.bS (.t 1 (.k8 (.k8 .z)))) ⟨bl,mv,trivial⟩ (.k (.k (.k .z))) (.cA (.k8 (.k8 (.kk .z)))) λa w hI=>?_
   refine ae ?_
   exact⟨k+1,⟨(show k+1<=n2 by omega),(hI.conv ⟨⟨0,_,_,rfl,⟨rfl,rfl,rfl⟩,rfl,λ_=>(rf (by rw[uB,Cn (by rw[oW]; omega),I9 (by omega)]))⟩,⟨1,_,_,rfl,⟨rfl,rfl,rfl⟩,rfl,λ_=>λ_ _ h=>h⟩,trivial⟩ ⟨⟨rfl,rfl,0,_,rfl,λ_ _ h=>h⟩,⟨rfl,rfl,1,_,rfl,λ_ _ h=>h⟩,⟨rfl,rfl,2,_,rfl,λ_ _ h=>h⟩,⟨rfl,rfl,20,_,rfl,(bk (by omega))⟩,trivial⟩)⟩,(show n2-(k+1)<n2-k by omega)⟩
  ·have t4:=of_decide_eq_false ht
   refine wp_exit ?_
   refine ak ?_
   refine ak ?_
   refine aH ?_
   have hI:Inv ⟨29,w0,M,B⟩ [⟨29,29,none,none,.obj,0,0,false,wJ (uC H b1 (bq (if f=0 then L1 else gN L1 s1 L2 s2 f n2) p1)),[]⟩,⟨5,5,none,none,.ptr,40,3,true,pv (au f),[]⟩] [] [⟨none,none,0,bg (.slice (some ⟨b1,s1*3,none⟩) n1 c1)⟩,⟨none,none,10,bg (.slice (some ⟨b2,s2*3,none⟩) n2 c2)⟩,⟨none,none,11,pI (n2:Int)⟩,⟨none,none,12,pI (k:Int)⟩,⟨none,none,13,pB (decide ((k:Int)<(n2:Int)))⟩] none_ _ _:=(hI.conv ⟨⟨0,_,_,rfl,⟨rfl,rfl,rfl⟩,rfl,λ_=>(rf (by rw[if_neg t2,show k=n2 by omega]))⟩,⟨1,_,_,rfl,⟨rfl,rfl,rfl⟩,rfl,λ_=>λ_ _ h=>h⟩,trivial⟩ ⟨⟨rfl,rfl,0,_,rfl,λ_ _ h=>h⟩,⟨rfl,rfl,1,_,rfl,λ_ _ h=>h⟩,⟨rfl,rfl,2,_,rfl,λ_ _ h=>h⟩,⟨rfl,rfl,3,_,rfl,λ_ _ h=>h⟩,⟨rfl,rfl,4,_,rfl,λ_ _ h=>h⟩,trivial⟩)
   exact Tx hI rfl hH (n0:=0) rfl (Kh _ _ _) 
theorem Qb (m1:(⟨b1,3,true,bq L1 p1⟩:Bk)∈H) (m2:(⟨b2,3,true,bq L2 p2⟩:Bk)∈H) (hne:b2≠b1) (k1:s1+n1<=L1.length) (k2:s2+n2<=L2.length) (k12:n2<=n1) (kn:n1<=1000000) (q1:∀x,x∈L1->aZ j x) (q2:∀x,x∈L2->aZ j2 x) (qf:aZ jf f) (hj:j+(jf+j2)+j+(jf+j2)+1<=100000000):∀(M:Nat->Nat->Prop) (B:Nat->Prop) (w:World) (v0 v1 v2:Value),cL M w->(∀k,B k->∀o,¬M k o)->dn B w H->aO (plus M B) (λw=>(bg (.slice (some ⟨b1,s1*3,none⟩) n1 c1)) w v0) w->aO (plus M B) (λw=>(bg (.slice (some ⟨b2,s2*3,none⟩) n2 c2)) w v1) w->aO (plus M B) (λw=>(au f) w v2) w->Calls Tryz.prog 187 #[v0,v1,v2] w (AH M B (bg (.tuple #[])) (uC H b1 (bq (if f=0 then L1 else gN L1 s1 L2 s2 f n2) p1)) w):=
 MJ m1 m2 hne k1 k2 k12 kn (λk hk=>JP q1 (by omega)) (λk hk=>JP q2 (by omega)) qf hj
theorem dF (l:List Rat):Fits 1 false (aD l):=by
 rintro w v ⟨A,c,rfl,_⟩
 exact⟨[_],rfl,rfl,rfl,λu hu=>by simp at hu; subst hu; exact⟨ee _ _ _,rfl⟩⟩
theorem PX {u v:Value} (h:u=v):∀w x,bg u w x->bg v w x:=λ_ _ k=>h▸k
variable {c:Nat}
theorem Oa {l:List Rat} (hc:c<l.length) (hl:c<=1000000000) (hb:∀x,x∈l->aZ j x):∀(M:Nat->Nat->Prop) (w:World) (v0 v1:Value),cL M w->aO M (λw=>(aD l) w v0) w->aO M (λw=>(cZ 1 false (pI (c:Int))) w v1) w->Calls Tryz.prog 202 #[v0,v1] w (bH M (pB (!(decide ((l).getD c 0=0)))) w):=by
 intro M w0 v0 v1 hM hv0 eI
 refine eK (N:=10) Tryz.func202 rfl rfl rfl hM (show cF M w0 [v0,v1] [⟨none,none,0,aD l⟩,⟨none,none,1,cZ 1 false (pI (c:Int))⟩]from⟨⟨rfl,_,rfl,hv0⟩,⟨rfl,_,rfl,eI⟩,trivial⟩) λa hI=>?_
 refine dU hI 1 [Uc 0 3 _] (.kk .z) ⟨mv,trivial⟩ (.bS .z) λa w hI=>?_
 refine dU hI 7 [Uc 0 4 _,Uc 1 5 (pI (c:Int)),Uc 2 6 _,Uc 3 7 (au ((l).getD c 0)),Uc 4 8 _,Uc 5 9 _,Uc 6 3 _] (.kk (.t 6 .z)) ⟨mv,MA (.tmp 1 rfl rfl) wX (.here 4 rfl),Xi bF,dQ (.tmp 5 rfl rfl) bY (cV _) (.here 6 rfl),ce1 (bU _) (G8 ((l).getD c 0)),nt,mv,trivial⟩ (.d8 (.dk .z)) λa w hI=>?_
 refine wp_ret ?_
 exact ck hI rfl (.tmp 0 rfl)
theorem CU {X:Nat->List Rat} {n:Nat} (hn:n<=1000000) (hc:∀i,i<n->c<(X i).length) (hl:c<=1000000000) (hb:∀i,i<n->∀x,x∈X i->aZ j x):∀(M:Nat->Nat->Prop) (w:World) (v0 v1:Value),cL M w->aO M (λw=>(aA 1 false n (λi=>aD (X i))) w v0) w->aO M (λw=>(tE 202 1 false (pI (c:Int))) w v1) w->Calls Tryz.prog 201 #[v0,v1] w (bH M (pI (iT (λi=>!(decide ((X i).getD c 0=0))) n)) w):=by
 intro M w0 v0 v1 hM hv0 eI
 refine eK (N:=19) Tryz.func201 rfl rfl rfl hM (show cF M w0 [v0,v1] [⟨none,none,0,aA 1 false n (λi=>aD (X i))⟩,⟨none,none,1,tE 202 1 false (pI (c:Int))⟩]from⟨⟨rfl,_,rfl,hv0⟩,⟨rfl,_,rfl,eI⟩,trivial⟩) λa hI=>?_
 refine dU hI 1 [Uc 0 4 _] (.kk .z) ⟨mv,trivial⟩ (.bS .z) λa w hI=>?_
 refine wp_seq ?_
 refine dU hI 3 [Uc 0 6 _,Uc 1 7 (pI (n:Int)),Uc 2 8 _] (.bS .z) ⟨mv,fl (.tmp 3 rfl rfl) (aX).under (.here 4 rfl),mv,trivial⟩ (.cA (.kk .z)) λa w hI=>?_
 refine wp_block ?_
 refine dL (λ(k:Nat) a w=>(k<=n/\∀q,q<k->(!(decide ((X q).getD c 0=0)))=false)/\Inv ⟨19,w0,M,λ_=>False⟩ [] [] [⟨none,none,0,aA 1 false n (λi=>aD (X i))⟩,⟨none,none,1,tE 202 1 false (pI (c:Int))⟩,⟨none,none,7,pI (n:Int)⟩,⟨none,none,8,pI (k:Int)⟩] none_ a w) (λ(k:Nat)=>n-k) (0) ⟨⟨Nat.zero_le _,λq hq=>by omega⟩,(hI.conv trivial ⟨⟨rfl,rfl,0,_,rfl,λ_ _ h=>h⟩,⟨rfl,rfl,1,_,rfl,λ_ _ h=>h⟩,⟨rfl,rfl,3,_,rfl,λ_ _ h=>h⟩,⟨rfl,rfl,4,_,rfl,(bk (by omega))⟩,trivial⟩)⟩ ?_
 intro k a w zo
 obtain⟨hp,hI⟩:=zo
 refine dU hI 1 [Uc 0 9 _] (.ah .z) ⟨bl,trivial⟩ (.ah (.k .z)) λa w hI=>?_
 refine wp_seq ?_
 refine dD hI 4 rfl (λht=>?_) (λht=>?_)
 ·have t1:=of_decide_eq_true ht
  refine wp_skip ?_
  refine ae ?_
  refine wp_seq ?_
  refine wp_block ?_
  refine dU hI 2 [Uc 0 10 _,Uc 1 5 _] (.ah (.k .z)) ⟨mv,mv,trivial⟩ (.ah (.bS .z)) λa w hI=>?_
  refine dU hI 6 [Uc 0 11 _,Uc 1 12 _,Uc 2 13 _,Uc 3 14 _,Uc 4 15 (aD (X k)),Uc 5 16 (pB (!(decide ((X k).getD c 0=0))))] (.ah (.bS .z)) ⟨mv,mv,mv,Xi aX,dQ (.tmp 10 rfl rfl) bw ((dF _)) (.here 11 rfl),wG (λ_ _=>by kernel_rfl) (.tmp 7 rfl rfl) (.tmp 11 rfl rfl) (.here 12 rfl) (Oa (hc _ (by omega)) hl (hb _ (by omega))),trivial⟩ (.k8 (.ah (.k .z))) λa w hI=>?_
  refine dD hI 12 rfl (λht=>?_) (λht=>?_)
  ·have t2:=ht
   refine dU hI 2 [Uc 0 17 _,Uc 1 4 _] (.k8 (.ah (.k .z))) ⟨mv,mv,trivial⟩ (.k8 (.ah (.bS .z))) λa w hI=>?_
   refine wp_ret ?_
   refine bj ?_
   refine aB ?_
   refine aB ?_
   refine bj ?_
   refine aB ?_
   exact ck hI rfl (.imp (.tmp 14 rfl) (bk (ze (p:=λi=>!(decide ((X i).getD c 0=0))) (by omega) t2 hp.2).symm))
  ·have t3:=ht
   refine wp_skip ?_
   refine aG ?_
   refine ae ?_
   refine ZS hI 2 [Uc 0 18 _,Uc 1 8 _] (.bS (.t 1 (.k8 (.k .z)))) ⟨bl,mv,trivial⟩ (.cA (.k8 (.bS .z))) λa w hI=>?_
   refine ae ?_
   exact⟨k+1,⟨⟨by omega,λq hq=>by rcases Nat.lt_or_ge q k with h|h; exact hp.2 q h; rw[show q=k by omega]; exact t3⟩,(hI.conv trivial ⟨⟨rfl,rfl,0,_,rfl,λ_ _ h=>h⟩,⟨rfl,rfl,1,_,rfl,λ_ _ h=>h⟩,⟨rfl,rfl,2,_,rfl,λ_ _ h=>h⟩,⟨rfl,rfl,13,_,rfl,(bk (by omega))⟩,trivial⟩)⟩,(show n-(k+1)<n-k by omega)⟩
 ·have t4:=of_decide_eq_false ht
  refine wp_exit ?_
  refine ak ?_
  refine ak ?_
  refine aH ?_
  refine ae ?_
  refine dU hI 1 [Uc 0 4 _] (.ah (.k .z)) ⟨mv,trivial⟩ (.bh (.dk .z)) λa w hI=>?_
  refine wp_ret ?_
  exact ck hI rfl (.imp (.tmp 0 rfl) (bk (vW (λj hj=>hp.2 j (by omega))).symm))
theorem SJ {g cap:Nat} {R:List ct} {X:List (List Rat)} (Nw:fe g cap R X H) (hc:c<X.length) (hn:X.length<=1000000) (Vg:∀i,i<X.length->c<(X.getD i []).length) (hb:∀i,i<X.length->∀x,x∈X.getD i []->aZ j x):∀(M:Nat->Nat->Prop) (B:Nat->Prop) (w:World) (v0 v1:Value),cL M w->(∀k,B k->∀o,¬M k o)->dn B w H->aO (plus M B) (λw=>(bg (.slice (some ⟨g,0,none⟩) X.length cap)) w v0) w->aO (plus M B) (λw=>(pI (c:Int)) w v1) w->Calls Tryz.prog 186 #[v0,v1] w (AH M B (cN (pB (decide (0<=gW X c))) (pB (decide (gW X c>0)))) (uC H g (gv (lY X R c))) w):=by
 intro M B w0 v0 v1 hM H7 hH hv0 eI
 have hu:∀e,e∈H->e.b=g->e.items=gv R:=λe he hb'=>BW hH he Nw.top hb'
 have hrg:_:=pP hc
 have hlen:_:=Nw.len
 have hsz:_:=Nw.size
 refine ug (N:=34) (id:=34) (s:=34) Tryz.func186 rfl rfl rfl hM H7 hH (show cF (plus M B) w0 [v0,v1] [⟨none,none,0,bg (.slice (some ⟨g,0,none⟩) X.length cap)⟩,⟨none,none,1,pI (c:Int)⟩]from⟨⟨rfl,_,rfl,hv0⟩,⟨rfl,_,rfl,eI⟩,trivial⟩) λa hI=>?_
 refine lA hI 3 [⟨3,3,some 0,none,.ptr,3,1,false,pv (pI (c:Int)),[]⟩] [] [Uc 1 4 _,Uc 2 5 _] (.k .z) (.kk .z) ⟨wE 1 rfl rfl (by kernel_rfl) (by kernel_rfl) rfl rfl rfl (.tmp 1 rfl rfl) (fits_int _) rfl,mv,mv,trivial⟩ (.k (.k .z)) (.oM .z) λa w hI=>?_
 obtain⟨p3,hI⟩:=hI.KE 1 rfl rfl rfl
 refine lA hI 6 [] [] [Uc 0 7 _,Uc 1 8 (pI (c:Int)),Uc 2 9 (bg (.slice (some ⟨g,c,none⟩) (X.length-c) (cap-c))),Uc 3 10 (bg (.func (.func 202) #[] #[.pointer (some ⟨p3,0,none⟩)])),Uc 4 11 (pI (gW X c)),Uc 5 6 _] (.k (.k .z)) (.ah .z) ⟨mv,eW 1 rfl rfl rfl rfl (by kernel_rfl) wX rfl (.here 5 rfl),zR (.tmp 4 rfl rfl) (.tmp 5 rfl rfl) aX (by omega) (by omega) (by omega) (.at_ 6 _ _ rfl (PX (by simp))),uR (.tmp 0 rfl rfl) (.here 7 rfl),My (λ_ _=>by kernel_rfl) 0 rfl rfl rfl (by kernel_rfl) rfl 1 rfl rfl rfl (by kernel_rfl) rfl (.tmp 0 rfl rfl) (.tmp 6 rfl rfl) (.tmp 7 rfl rfl) (bU _) (.here 8 rfl) (λB w v hH hv=>by rw[show v=_ from hv]; exact LQ hH Nw (Nat.le_of_lt hc)) (CU (X:=λi=>X.getD (c+i) []) (by omega) (λi hi=>Vg (c+i) (by omega)) (by omega) (λi hi=>hb (c+i) (by omega))),mv,trivial⟩ (.k (.k .z)) (.ah (.bh (.dk .z))) λa w hI=>?_
 refine wp_seq ?_
 refine lA hI 2 [] [] [Uc 0 12 _,Uc 1 13 _] (.k (.k .z)) (.ah (.k .z)) ⟨mv,bl,trivial⟩ (.k (.k .z)) (.ah (.L8 .z)) λa w hI=>?_
 refine dD hI 5 rfl (λht=>?_) (λht=>?_)
 ·have t1:=of_decide_eq_true ht
  refine lA hI 2 [] [] [Uc 0 4 _,Uc 1 5 _] (.k (.k .z)) (.kk (.t 0 (.t 1 (.kk .z)))) ⟨mv,mv,trivial⟩ (.k (.k .z)) (.dI (.oM .z)) λa w hI=>?_
  refine wp_ret ?_
  refine aB ?_
  have hI:Inv ⟨34,w0,M,B⟩ [⟨34,34,none,none,.obj,0,0,false,wJ (uC H g (gv (lY X R c))),[]⟩,⟨3,3,none,none,.ptr,3,1,false,pv (pI (c:Int)),[]⟩] [] [⟨none,none,3,bg (.pointer (some ⟨p3,0,none⟩))⟩,⟨none,none,0,bg (.slice (some ⟨g,0,none⟩) X.length cap)⟩,⟨none,none,6,pI (gW X c)⟩,⟨none,none,4,pB false⟩,⟨none,none,5,pB false⟩] none_ _ _:=(hI.conv ⟨⟨0,_,_,rfl,⟨rfl,rfl,rfl⟩,rfl,λ_=>(rf (by unfold lY; rw[if_pos (by omega)]; exact(oL hu).symm))⟩,⟨1,_,_,rfl,⟨rfl,rfl,rfl⟩,rfl,λ_=>λ_ _ h=>h⟩,trivial⟩ ⟨⟨rfl,rfl,0,_,rfl,λ_ _ h=>h⟩,⟨rfl,rfl,1,_,rfl,λ_ _ h=>h⟩,⟨rfl,rfl,2,_,rfl,λ_ _ h=>h⟩,⟨rfl,rfl,3,_,rfl,λ_ _ h=>h⟩,⟨rfl,rfl,4,_,rfl,λ_ _ h=>h⟩,trivial⟩)
  exact Tz hI rfl hH (n0:=0) rfl (Kh _ _ _) (.imp (.tmp 3 rfl) (gw (decide_eq_false (by omega)).symm)) (.imp (.tmp 4 rfl) (gw (decide_eq_false (by omega)).symm))
 ·have t2:=of_decide_eq_false ht
  refine wp_skip ?_
  refine ae ?_
  obtain⟨i0,hi0⟩:∃i0:Nat,gW X c=(i0:Int):=⟨(gW X c).toNat,by omega⟩
  obtain⟨x,hx⟩:=Nw.get hc
  obtain⟨y,hy⟩:=Nw.get (i:=c+i0) (by omega)
  refine sqD hI [0,0,0,0,0,24,0,0,0,384,960,1984,0,0,12288,28672,65475,131011,262143,524287] [] [] [Uc 0 14 _,Uc 1 15 (pI (c:Int)),Uc 2 16 _,Uc 3 17 (pI (c:Int)),Uc 4 18 _,Uc 5 19 _,Uc 6 20 _,Uc 7 21 (pI (c:Int)),Uc 8 22 _,Uc 9 23 _,Uc 10 24 (bg (.pointer (some ⟨g,0+(((c:Int)+(gW X c))).toNat*1,none⟩))),Uc 11 25 (bg (.slice (some ⟨y.b,0,none⟩) y.n y.cap)),Uc 12 26 _,Uc 13 27 (pI (c:Int)),Uc 14 28 (bg (.pointer (some ⟨g,0+((c:Int)).toNat*1,none⟩))),Uc 15 29 (bg (.slice (some ⟨x.b,0,none⟩) x.n x.cap)),Uc 16 30 (bg (.pointer (some ⟨g,0+((c:Int)).toNat*1,none⟩))),Uc 18 31 (bg (.pointer (some ⟨g,0+(((c:Int)+(gW X c))).toNat*1,none⟩)))] (.u none [(17,wJ (gH H g c (uD y.hdr))),(19,wJ (gH (gH H g c (uD y.hdr)) g (c+i0) (uD x.hdr)))] (.k .z)) (.ah (.kk .z)) ⟨mv,eW 1 rfl rfl rfl rfl (by kernel_rfl) wX rfl (.here 7 rfl),mv,eW 1 rfl rfl rfl rfl (by kernel_rfl) wX rfl (.here 9 rfl),mv,bl,mv,eW 1 rfl rfl rfl rfl (by kernel_rfl) wX rfl (.here 13 rfl),mv,bl,bt (.tmp 12 rfl rfl) (.tmp 15 rfl rfl) aX (by omega) (by omega) (by kernel_rfl) (.here 16 rfl),dA (e:=⟨g,1,false,gv R⟩) (idx:=c+i0) 0 rfl rfl rfl (by kernel_rfl) rfl (.tmp 16 rfl rfl) Nw.top rfl (gO hy) (show 0+(((c:Int)+(gW X c))).toNat*1=(c+i0)*1 by omega) bw (.here 17 rfl),mv,eW 1 rfl rfl rfl rfl (by kernel_rfl) wX rfl (.here 19 rfl),bt (.tmp 18 rfl rfl) (.tmp 19 rfl rfl) aX (by omega) (by omega) (by kernel_rfl) (.here 20 rfl),dA (e:=⟨g,1,false,gv R⟩) (idx:=c) 0 rfl rfl rfl (by kernel_rfl) rfl (.tmp 20 rfl rfl) Nw.top rfl (gO hx) (show 0+((c:Int)).toNat*1=(c)*1 by omega) bw (.here 21 rfl),bt (.tmp 6 rfl rfl) (.tmp 7 rfl rfl) aX (by omega) (by omega) (by kernel_rfl) (.here 22 rfl),kA (e:=⟨g,1,false,gv R⟩) (idx:=c) (it:=uD y.hdr) 0 rfl rfl rfl (by kernel_rfl) 0 rfl (by kernel_rfl) (by kernel_rfl) rfl (.tmp 22 rfl rfl) Nw.top rfl (by rw[rB]; omega) (show 0+((c:Int)).toNat*1=(c)*1 by omega) bw (.tmp 17 rfl rfl) (iU _ _ _),bt (.tmp 8 rfl rfl) (.tmp 11 rfl rfl) aX (by omega) (by omega) (by kernel_rfl) (.here 23 rfl),kA (e:=⟨g,1,false,(gv R).set c (uD y.hdr)⟩) (idx:=c+i0) (it:=uD x.hdr) 0 rfl rfl rfl (by kernel_rfl) 1 rfl (by kernel_rfl) (by kernel_rfl) rfl (.tmp 23 rfl rfl) (Fj Nw.top rfl) rfl (by rw[List.length_set,rB]; omega) (show 0+(((c:Int)+(gW X c))).toNat*1=(c+i0)*1 by omega) bw (.tmp 21 rfl rfl) (iU _ _ _),trivial⟩ (.s (.c .o) (.k .z)) (.xI (.dx (.d8 (.d8 .z)))) λa w hI=>?_
  refine lA hI 4 [] [] [Uc 0 32 _,Uc 1 33 _,Uc 2 4 _,Uc 3 5 _] (.k (.k .z)) (.t 2 (.t 3 (.k .z))) ⟨mv,bl,mv,mv,trivial⟩ (.k (.k .z)) (.bh (.Ok .z)) λa w hI=>?_
  refine wp_ret ?_
  have hI:Inv ⟨34,w0,M,B⟩ [⟨34,34,none,none,.obj,0,0,false,wJ (uC H g (gv (lY X R c))),[]⟩,⟨3,3,none,none,.ptr,3,1,false,pv (pI (c:Int)),[]⟩] [] [⟨none,none,4,pB true⟩,⟨none,none,5,pB (decide ((gW X c)>(0:Int)))⟩] none_ _ _:=(hI.conv ⟨⟨0,_,_,rfl,⟨rfl,rfl,rfl⟩,rfl,λ_=>(rf (by unfold lY; rw[if_neg (by omega),show(gW X c).toNat=i0 by omega]; exact LR hu hx hy))⟩,⟨1,_,_,rfl,⟨rfl,rfl,rfl⟩,rfl,λ_=>λ_ _ h=>h⟩,trivial⟩ ⟨⟨rfl,rfl,0,_,rfl,λ_ _ h=>h⟩,⟨rfl,rfl,1,_,rfl,λ_ _ h=>h⟩,trivial⟩)
  exact Tz hI rfl hH (n0:=0) rfl (Kh _ _ _) (.imp (.tmp 0 rfl) (gw (decide_eq_true (by omega)).symm)) (.tmp 1 rfl)
end Wx
