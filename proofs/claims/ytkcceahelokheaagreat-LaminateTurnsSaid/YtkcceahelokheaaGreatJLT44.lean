import Derived.Test.YtkcceahelokheaaGreatCLTSemBox
import Derived.Test.YtkcceahelokheaaGreatJLT43
namespace Wx
set_option maxRecDepth 100000
set_option maxHeartbeats 1000000
open Go Go.RowKit Go.Proofs
set_option linter.unusedVariables false
attribute [local irreducible] OpOk
def faB (st:List Rat) (z:Rat):List Rat:=xy ((st.drop 0).take 3) ((st.drop 3).take 3) z
def WY (m st:List Rat) (p q:Int) (z x:Rat):List Rat:=xy (Fl (cR p q) (faB st z)) [m.getD 4 0,m.getD 5 0,0] (-x)
def Tw (m st:List Rat) (p q:Int) (z x:Rat):List Rat:=WY m st p q z x++tL (P7 m) (WY m st p q z x)
def Nt (ms:Nat->List Rat) (S:List bK) (st:List Rat) (x:Rat) (i:Nat):List Rat:=
 Tw (ms (ai S i).gP.toNat) st (ai S i).p (ai S i).q (ia S i) x++Tw (ms (ai S i).gP.toNat) st (ai S i).p (ai S i).q (ia S (i+1)) x
variable {v w:List Rat} {r:Rat}
theorem ME:(xy v w r).length=3:=dS
variable {m st:List Rat} {p q:Int} {z x:Rat}
theorem C8:(WY m st p q z x).length=3:=dS
theorem ur:(Tw m st p q z x).length=6:=by
 unfold Tw
 rw[List.length_append,C8,p8]
variable {ms:Nat->List Rat} {S:List bK} {i:Nat}
theorem C9:(Nt ms S st x i).length=12:=by
 unfold Nt
 rw[List.length_append,ur,ur]
def faN (m st:List Rat) (p q:Int) (z0 z1 x:Rat) (t:Nat):List Rat:=(if 0<t then Tw m st p q z0 x else List.replicate 6 0)++(if 1<t then Tw m st p q z1 x else List.replicate 6 0)
variable {a b:List Rat}
theorem SH (h:a.length=m.length):I5 (a++b) 0 m=m++b:=by
 unfold I5
 rw[List.take_zero,List.nil_append,Nat.zero_add,<-h,List.drop_left]
variable {k:Nat}
theorem SG (hk:k=a.length) (h:b.length=m.length):I5 (a++b) k m=a++m:=by
 unfold I5
 subst hk
 rw[List.take_left,<-List.drop_drop,List.drop_left,<-h,List.drop_length,List.append_nil]
theorem Ow {z0 z1:Rat} {t:Nat} (ht:t<2):I5 (faN m st p q z0 z1 x t) (6*t) (Tw m st p q ([z0,z1].getD t 0) x)=faN m st p q z0 z1 x (t+1):=by
 have h2:t=0\/t=1:=by omega
 rcases h2 with rfl|rfl
 ·exact SH (by show(List.replicate 6 (0:Rat)).length=_; rw[ur]; rfl)
 ·exact SG (by show 6*1=(Tw m st p q z0 x).length; rw[ur]) (by show(List.replicate 6 (0:Rat)).length=_; rw[show[z0,z1].getD 1 0=z1 from rfl,ur]; rfl)
variable {j:Nat}
theorem KJ (hv:∀q,aZ i (v.getD q 0)) (hw:∀q,aZ j (w.getD q 0)) (hr:aZ k r):∀q,aZ (i+(j+k)+1) ((xy v w r).getD q 0):=by
 intro q
 by_cases hq:q<3
 ·unfold xy
  rw[eM hq]
  exact(hv q).qx ((hw q).mul hr)
 ·rw[List.getD_eq_getElem?_getD,List.getElem?_eq_none (by rw[ME]; omega)]
  exact Eg.mono (by omega)
theorem Fm {s:List Rat} (h:∀q,aZ i (s.getD q 0)) (g:∀q,aZ j (v.getD q 0)):∀q,aZ (4*i+4*j+100) ((Fl s v).getD q 0):=by
 have t2:aZ 2 lF:=⟨by unfold Bd; decide,by unfold Bd; decide⟩
 intro q
 match q with
 |0=>exact((((h 0).mul (g 0)).qx ((h 1).mul (g 1))).qx ((h 2).mul (g 2))).mono (by omega)
 |1=>exact((((h 1).mul (g 0)).qx ((h 0).mul (g 1))).wV ((h 2).mul (g 2))).mono (by omega)
 |2=>exact(((t2.mul (h 2)).mul ((g 1).wV (g 0))).qx (((h 0).wV (h 1)).mul (g 2))).mono (by omega)
 |q+3=>
  show aZ _ ((Fl s v).getD (q+3) 0)
  rw[List.getD_eq_getElem?_getD,List.getElem?_eq_none (by show 3<=q+3; omega)]
  exact Eg.mono (by omega)
theorem rY {l:List Rat} (hj:1<=j) (h:∀q,aZ j (l.getD q 0)) (o m:Nat):∀q,aZ j (((l.drop o).take m).getD q 0):=by
 intro q
 rw[List.getD_eq_getElem?_getD,List.getElem?_take]
 split
 ·rw[List.getElem?_drop,<-List.getD_eq_getElem?_getD]
  exact h _
 ·exact Eg.mono hj
theorem SE (hm:∀q,aZ j (m.getD q 0)) (hj:1<=j):∀t,aZ (28*j+2321) ((P7 m).getD t 0):=λt=>(Av (By hm hj) (J7 (oZ (p:=1) (q:=0) (by decide))) t).mono (by omega)
theorem QC (a b:Rat) (hj:1<=j):∀w v,pS [⟨true,3,pR j a⟩,⟨true,3,pR j b⟩,⟨true,3,pR 1 0⟩] w v->pV au j [a,b,0] w v:=w7.pV (.c (Nat.le_refl _) (.c (Nat.le_refl _) (.c hj .z)))
def Ns (j jr jx:Nat):Nat:=(612+4*(jr+(jr+28)+1))+(j+jx)+1
def AM (j jr jx:Nat):Nat:=1+3*(28*j+2404+Ns j jr jx+1)
theorem Pd (h:(m.length=16/\1<=j/\j<=100000)/\tv m=0):∀(M:Nat->Nat->Prop) (w:World) (v0:Value),cL M w->aO M (λw=>(pV au j m) w v0) w->Calls Tryz.prog 123 #[v0] w (bH M (cN (pV au (4*(7*j+1)+2400) (P7 m)) (pI 0)) w):=by
 intro M w v0 hM hv0
 have:=Zq h.1 M w v0 hM hv0
 rw[if_pos h.2,h.2]at this
 exact this
theorem Cv (hm:∀q,aZ j (m.getD q 0)) {q:Nat} (hq:q<3) (hj:1<=j:=by omega):aZ j ([m.getD 4 0,m.getD 5 0,0].getD q 0):=by
 have h3:q=0\/q=1\/q=2:=by omega
 rcases h3 with rfl|rfl|rfl
 ·exact hm 4
 ·exact hm 5
 ·exact Eg.mono hj
variable {jr jx:Nat}
theorem U1 {v:Nat} (hv:v<=3):1+v*(28*j+2321+Ns j jr jx+1)<=AM j jr jx:=by
 unfold AM
 have:=Nat.mul_le_mul_right (28*j+2321+Ns j jr jx+1) hv
 omega
theorem U0 (hj:1<=j) (hd:-1048576<=p/\p<=1048576 /\ -1048576<=q/\q<=1048576) (TM:1<=jr) (hm:∀q,aZ j (m.getD q 0)) (hst:∀q,aZ jr (st.getD q 0)) (hz:aZ 28 z) (hx:aZ jx x):∀u,aZ (Ns j jr jx) ((WY m st p q z x).getD u 0):=by
 intro u
 by_cases hu:u<3
 ·unfold WY xy
  rw[eM hu]
  refine((Fm (oZ hd) (KJ (rY TM hst 0 3) (rY TM hst 3 3) hz) u).qx ((Cv hm hu).mul hx.neg)).mono ?_
  unfold Ns
  omega
 ·rw[List.getD_eq_getElem?_getD,List.getElem?_eq_none (by rw[C8]; omega)]
  exact Eg.mono (by unfold Ns; omega)
theorem RZ {n:Nat} (h:lJ n ms S/\jQ n j ms/\(∀i,i<n->tv (ms i)=0)/\st.length=6/\j<=100000/\1<=jr/\jr<=600000/\1<=jx/\jx<=100000/\(∀q,aZ jr (st.getD q 0))/\aZ jx x):K4 Tryz.prog 71 (aA 48 true n λi=>pV au j (ms i)) (aA 4 true S.length λi=>cP (ai S i)) (pV au jr st) (pR jx x) (aA 36 true S.length λi=>pV au (AM j jr jx) (Nt ms S st x i)):=by
 intro M w0 v0 v1 v2 v3 hM hv0 eI hv2 hv3
 obtain⟨hok,hmo,hme,hl6,hjj,TM,hjr2,hjx,hjx2,hst,hx⟩:=id h
 have hmj:=hmo.j1
 have Xc:=hok.thin
 have hF1:Ns j jr jx=(612+4*(jr+(jr+28)+1))+(j+jx)+1:=rfl
 have hF2:AM j jr jx=1+3*(28*j+2404+Ns j jr jx+1):=rfl
 have hs0:((st.drop 0).take 3).length=3:=by simp only[List.length_take,List.length_drop]; omega
 have hs3:((st.drop 3).take 3).length=3:=by simp only[List.length_take,List.length_drop]; omega
 refine adT (N:=78) Tryz.func71 rfl rfl hM hv0 eI hv2 hv3 λa hI=>?_
 refine bM hI 5 [Uc 0 4 _,Uc 1 5 _,Uc 2 6 _,Uc 3 7 _,Uc 4 8 _] (.ah .z) ⟨AK 1 false,AK 1 false,AK 18 true,AK 3 true,mv,trivial⟩ (.bh (.ah (.k .z))) λa w hI=>?_
 refine bf hI 1 [⟨9,9,some 0,none,.ptr,59,1,false,pv _,[]⟩] [] [] .z (.ah (.k .z)) ⟨ado .n,trivial⟩ (.k .z) (.ah (.k .z)) λa w hI=>?_
 obtain⟨b9,hI⟩:=adI (sz:=36) (ag:=true) (E:=72) (λi=>pV au (AM j jr jx) (Nt ms S st x i)) hI 0 rfl
 dsimp only[List.set]at hI
 refine az ?_
 refine bf hI 2 [] [] [Uc 0 19 _,Uc 1 20 _] (.k .z) (.ah (.kk .z)) ⟨ld,mS wj,trivial⟩ (.k .z) (.ah (.sq .z)) λa w hI=>?_
 refine aC ?_
 refine Ay (y0:=21) (y1:=22) (τ:=Unit) (λk t=>[uf 9 b9 36 k true 72 (λi=>pV au (AM j jr jx) (Nt ms S st x i))]) (λ_ _=>[eH 4 4 λ_ _ _=>False]) [Uz 9 _,Uz 4 _,Uz 5 _,Uz 6 _,Uz 7 _,Uz 8 _,Uz 20 _] [4,5,6,7,8,9,20] () (hI.cv ⟨vBx,trivial⟩ ⟨gc,gc,gc,gc,gc,gc,gc,trivial⟩) rfl (λ_ _=>by kernel_rfl) (λ_ _=>by kernel_rfl) (by kernel_rfl) (by kernel_rfl) (by kernel_rfl) (λk t w0 M1 B1 a w D l r hk hr hI=>?_) (λt w D l r hI=>?_) (λcd t w D l r hI=>(wg hI).elim)
 ·
  dsimp only[List.append,List.map,HAppend.hAppend,Append.append,QV]at hI
  refine bf hI 1 [] [] [Uc 0 10 _] (.k (.k .z)) (.k8 (.k8 .z)) ⟨mv,trivial⟩ (.k (.k .z)) (.k8 (.k8 (.k .z))) λa w hI=>?_
  refine qq hI 2 [⟨11,11,some 0,none,.ptr,94,6,true,pv _,[(1,pv _)]⟩] [] [] (.k (.k .z)) (.k8 (.k8 (.k .z))) ⟨fB [.r,.r],dM,trivial⟩ (.k (.k (.s .o .z))) (.k8 (.k8 (.k .z))) λa w hI=>?_
  refine ae ?_
  refine GU hI 1 hr (λw hI=>?_)
  dsimp only[List.set]at hI
  have TN:=Xc.len
  have hm6:[ia S k,ia S (k+1)].length=2:=rfl
  have LU:=hok.gP k hk
  have Nz:=hok.m16 (ai S k).gP.toNat (by omega)
  have Xa:=hok.dir k hk
  have hmb:=λq=>hmo.bd (ai S k).gP.toNat q (by omega)
  refine aC ?_
  refine mR hI [0,0,0,6,14,30,63,127,0,511] [⟨12,12,some 8,none,.ptr,97,48,true,pv _,[(9,pv _)]⟩] [] [Uc 0 23 _,Uc 1 24 _,Uc 2 25 _,Uc 3 26 _,Uc 4 27 _,Uc 5 28 _,Uc 6 29 _,Uc 7 30 _] (.k (.k (.k .z))) (.k8 (.k8 (.k .z))) ⟨ld,ld,mv,ix,fP 0 1 false,ld,ix,ld,fB [.r,.r,.r,.r,.r,.r,.r,.r,.r,.r,.r,.r,.r,.r,.r,.r],dM,trivial⟩ (.k (.k (.k (.s .o .z)))) (.k8 (.k8 (.dx (.bh (.d .z))))) λa w hI=>?_
  refine bf hI 8 [⟨13,13,some 5,none,.ptr,75,27,true,pv _,[(6,pv _)]⟩] [] [Uc 0 32 _,Uc 1 33 _,Uc 2 31 _,Uc 3 34 _,Uc 4 35 _,Uc 7 14 _] (.k (.k (.k (.k .z)))) (.k8 (.k8 (.k .z))) ⟨ld,mS (Pd (m:=(ms (ai S k).gP.toNat)) (j:=j)) (hφ:=⟨⟨Nz,hmj,h.2.2.2.2.1⟩,h.2.2.1 _ (by omega)⟩),mv,ext,ext,fB [.r,.r,.r,.r,.r,.r,.r,.r,.r],dM,mv,trivial⟩ (.k (.k (.k (.k (.s .o .z))))) (.k8 (.k8 (.dx (.qy .z)))) λa w hI=>?_
  refine bf hI 1 [⟨15,15,some 0,none,.ptr,72,36,true,pv _,[]⟩] [] [] (.k (.k (.k (.k (.k .z))))) (.k8 (.k8 (.k .z))) ⟨lE (AM j jr jx) 12,trivial⟩ (.k (.k (.k (.k (.k (.k .z)))))) (.k8 (.k8 (.k .z))) λa w hI=>?_
  refine az ?_
  refine bf hI 2 [] [] [Uc 0 36 _,Uc 1 37 _] (.k (.k (.k (.k (.k (.k .z)))))) (.k8 (.k8 (.k .z))) ⟨ld,mv,trivial⟩ (.k (.k (.k (.k (.k (.k .z)))))) (.k8 (.k8 (.bS .z))) λa w hI=>?_
  refine aC ?_
  refine tN [uf 9 b9 36 _ true 72 _,eH 78 78 _,Vz 11 11 94 6 true _,Vz 12 12 97 48 true _,Vz 13 13 75 27 true _] [Uz 22 _,Uz 21 _,Uz 9 _,Uz 4 _,Uz 5 _,Uz 6 _,Uz 7 _,Uz 8 _,Uz 20 _,Uz 4 _,Uz 5 _,Uz 6 _,Uz 7 _,Uz 8 _,Uz 9 _,Uz 20 _,Uz 10 _,Uz 36 _] (λ(t:Nat)=>[Vz 15 15 72 36 true (pV au (AM j jr jx) (faN (ms (ai S k).gP.toNat) st (ai S k).p (ai S k).q (ia S k) (ia S (k+1)) x t))]) (λ(t:Nat)=>[Uz 37 (pI (t:Int))]) (λ(t:Nat)=>t<=2) (λ(t:Nat)=>2-t) (0) (Nat.zero_le 2) hI ⟨vBx,vA,vi,vi,vi,vC (cq (l':=faN (ms (ai S k).gP.toNat) st (ai S k).p (ai S k).q (ia S k) (ia S (k+1)) x 0) rfl (Nat.le_refl _)),trivial⟩ ⟨gi,gi,gi,gi,gi,gi,gi,gi,gi,gq 9,gq 10,gq 11,gq 12,gq 13,gq 14,gq 15,gi,gi,gc,trivial⟩ ?_
  intro t a w ht hI
  have TN:=Xc.len
  have hm6:[ia S k,ia S (k+1)].length=2:=rfl
  have LU:=hok.gP k hk
  have Nz:=hok.m16 (ai S k).gP.toNat (by omega)
  have Xa:=hok.dir k hk
  have hmb:=λq=>hmo.bd (ai S k).gP.toNat q (by omega)
  refine bf hI 1 [] [] [Uc 0 38 _] (.k (.k (.k (.k (.k (.k .z)))))) (.k8 (.k8 (.bS .z))) ⟨bn,trivial⟩ (.k (.k (.k (.k (.k (.k .z)))))) (.k8 (.k8 (.ah .z))) λa w hI=>?_
  refine az ?_
  refine mj hI (λt1=>?_) (λt1=>?_)
  ·
   refine aJ ?_
   refine ae ?_
   refine az ?_
   refine aC ?_
   have hz:aZ 28 ([ia S k,ia S (k+1)].getD t 0):=by
    have h2:t=0\/t=1:=by omega
    rcases h2 with rfl|rfl
    ·exact qP Xc (by omega)
    ·exact qP Xc (by omega)
   have hfa:=U0 (m:=(ms (ai S k).gP.toNat)) (st:=st) (p:=(ai S k).p) (q:=(ai S k).q) (z:=([ia S k,ia S (k+1)].getD t 0)) (x:=x) (j:=j) (jr:=jr) (jx:=jx) hmj Xa TM hmb hst hz hx
   refine bf hI 5 [⟨17,17,some 2,none,.ptr,40,3,true,pv _,[(4,pv _)]⟩] [] [Uc 0 39 _,Uc 1 40 _,Uc 3 16 _] (.k (.k (.k (.k (.k (.k .z)))))) (.k8 (.k8 (.ah .z))) ⟨mv,Zm 2 t,fB [.r],mv,dM,trivial⟩ (.k (.k (.k (.k (.k (.k (.s .o .z))))))) (.k8 (.k8 (.cA (.lQ .z)))) λa w hI=>?_
   refine mR hI [0,0,3,7,15,31,0,64,0,256,0,2047,4095,0,16383] [⟨18,18,some 13,none,.ptr,43,9,true,pv _,[(14,pv _)]⟩] [] [Uc 0 41 _,Uc 1 42 _,Uc 2 43 _,Uc 3 44 _,Uc 4 45 _,Uc 5 46 _,Uc 6 47 _,Uc 7 48 _,Uc 8 49 _,Uc 9 50 _,Uc 10 51 _,Uc 11 52 _,Uc 12 53 _] (.k (.k (.k (.k (.k (.k (.k .z))))))) (.k8 (.k8 (.ah .z))) ⟨ld,mv,ix,fP 1 2 true,ld,mS wk,fW 0 3,ld,fW 3 3,ld,ld,WS (Dw (v:=(st.drop 0).take 3) (w':=(st.drop 3).take 3) (r:=([ia S k,ia S (k+1)].getD t 0)) (i:=jr) (j:=jr) (k:=28) (J:=jr+(jr+28)+1)) (hφ:=⟨hs0,hs3,by omega,by omega,by omega,λu _=>(rY TM hst 0 3 u).qx ((rY TM hst 3 3 u).mul hz)⟩),pq (Iv (s:=cR (ai S k).p (ai S k).q) (v:=faB st ([ia S k,ia S (k+1)].getD t 0)) (i:=128) (j:=jr+(jr+28)+1)) (hφ:=⟨rfl,dS,by omega,by omega⟩),fB [.r,.r,.r],dM,trivial⟩ (.k (.k (.k (.k (.k (.k (.d (.s .o .z)))))))) (.k8 (.k8 (.ah (.d8 (.bh (.d .z)))))) λa w hI=>?_
   refine mR hI [0,0,2,6,0,16,48,126,0,256,1023,2047] [] [⟨some 1,55,12,12,True⟩,⟨some 2,56,12,12,True⟩,⟨some 4,58,12,12,True⟩,⟨some 5,59,12,15,True⟩] [Uc 0 54 _,Uc 3 57 _,Uc 6 60 _,Uc 7 61 _,Uc 8 62 _,Uc 9 63 _,Uc 10 64 _] (.k (.k (.k (.k (.k (.k (.u none [(11,pv _)] .z))))))) (.k8 (.k8 (.ah .z))) ⟨Zw,fa,fa,lV 4,fa,fa,lV 5,GR 3 [.o .r,.o .r,.o .r] [(0,_),(1,_)],ld,qi w8,WS (Dw (v:=Fl (cR (ai S k).p (ai S k).q) (faB st ([ia S k,ia S (k+1)].getD t 0))) (w':=[(ms (ai S k).gP.toNat).getD 4 0,(ms (ai S k).gP.toNat).getD 5 0,0]) (r :=-x) (i:=4*128+4*(jr+(jr+28)+1)+100) (j:=j) (k:=jx) (J:=Ns j jr jx)) (c2:=QC ((ms (ai S k).gP.toNat).getD 4 0) ((ms (ai S k).gP.toNat).getD 5 0) hmj) (hφ:=⟨rfl,rfl,by omega,by omega,by omega,λu hu=>((Fm (oZ Xa) (KJ (rY TM hst 0 3) (rY TM hst 3 3) hz) u).qx ((Cv hmb hu).mul hx.neg)).mono (by omega)⟩),dM,trivial⟩ (.k (.k (.k (.k (.k (.k (.s .o .z))))))) (.k8 (.k8 (.ah (.bh (.qy .z))))) λa w hI=>?_
   refine QK hI [0,0,0,0,12,30,63,127] [] [⟨some 6,71,15,(t)*18,True⟩] [Uc 0 65 _,Uc 1 66 _,Uc 2 67 _,Uc 3 68 _,Uc 4 69 _,Uc 5 70 _] (.k (.k (.k (.k (.k (.u none [(7,pv _)] (.k .z))))))) (.k8 (.k8 (.ah .z))) ⟨mv,ld,ld,ld,pq (Kl (m:=P7 (ms (ai S k).gP.toNat)) (v:=WY (ms (ai S k).gP.toNat) st (ai S k).p (ai S k).q ([ia S k,ia S (k+1)].getD t 0) x) (i:=4*(7*j+1)+2400) (j:=Ns j jr jx) (J:=AM j jr jx)) (hφ:=⟨nP,C8,by omega,by omega,λu v _ hv=>(D6 (SE hmb hmj) hfa u v).mono (U1 hv)⟩),bdV (AM j jr jx) 3 3,iA 2 18 t,sW (6*(t)),trivial⟩ (.k (.k (.k (.k (.k (.s .o (.d .z))))))) (.k8 (.k8 (.cA (.bh (.dd .z))))) λa w hI=>?_
   refine aG ?_
   refine ae ?_
   refine qq hI 2 [] [] [Uc 0 72 _,Uc 1 37 _] (.k (.k (.k (.k (.k (.k .z)))))) (.k8 (.k8 (.kk (.t 1 .z)))) ⟨bn,mv,trivial⟩ (.k (.k (.k (.k (.k (.k .z)))))) (.k8 (.k8 (.dI (.k .z)))) λa w hI=>?_
   refine ae ?_
   exact qR (t+1) (by omega) hI ⟨vBx,vA,vc,vc,vc,vC (cq (Ow (by omega)) (Nat.le_refl _)),trivial⟩ ⟨gc,gc,gc,gc,gc,gc,gc,gc,gc,gq 9,gq 10,gq 11,gq 12,gq 13,gq 14,gq 15,gc,gc,gc,trivial⟩ (by omega)
  ·
   refine bO ?_
   refine ak ?_
   refine ak ?_
   refine aH ?_
   refine ae ?_
   obtain rfl:t=2:=by omega
   obtain⟨s9,hI⟩:=V5 hI 0 rfl
   dsimp only[List.set]at hI
   refine wST hI 5 3 [] [] [Uc 0 73 _,Uc 1 74 _,Uc 2 75 _] (.k (.k (.k (.k (.k (.k .z)))))) (.k8 (.k8 (.ah .z))) ⟨lBx 9,ld,bs1 72 12,trivial⟩ (.k (.k (.k (.d (.d (.d .z)))))) (.k8 (.k8 (.dx (.L8 .z)))) (abl (n0:=0) (λi=>pV au (AM j jr jx) (Nt ms S st x i)) (x6 (cq rfl (Nat.le_refl _)))) λa w hI=>?_
   dsimp only[List.set]at hI
   refine aG ?_
   exact⟨(),hI.cv ⟨vBx,vA,trivial⟩ ⟨gc,gc,gc,gc,gc,gc,gc,gq 9,gq 10,gq 11,gq 12,gq 13,gq 14,gq 15,trivial⟩⟩
 ·
  dsimp only[List.append,HAppend.hAppend,Append.append]at hI
  refine aG ?_
  refine ae ?_
  refine Ee ?_
  have hI:=Wn hI 0 rfl (by kernel_rfl)
  dsimp only[List.eraseIdx]at hI
  refine bf hI 2 [] [] [Uc 0 77 _,Uc 1 8 _] (.k .z) (.ah (.kk (.t 1 (.k .z)))) ⟨ld,mv,trivial⟩ (.k .z) (.d8 (.dk .z)) λa w hI=>?_
  refine aL ?_
  exact TA hI 0 rfl iu
end Wx

namespace Wx
set_option maxRecDepth 100000
set_option maxHeartbeats 1000000
open Go Go.RowKit Go.Proofs
set_option linter.unusedVariables false
attribute [local irreducible] OpOk
def qm (m v:List Rat) (i:Nat):List Rat:=if v.getD i 0=0 then[]else[if i=2 then m.getD 10 0/yL (v.getD i 0)else if dK (v.getD i 0)>0 then m.getD (6+i) 0/v.getD i 0 else m.getD (8+i) 0 / -(v.getD i 0)]
def kC (m v:List Rat):Nat->List Rat
 |0=>[]
 |i+1=>kC m v i++qm m v i
theorem F5 (m v:List Rat) (i:Nat):∀d,∃r,kC m v (i+d)=kC m v i++r
 |0=>⟨[],by simp⟩
 |d+1=>by
  obtain⟨r,hr⟩:=F5 m v i d
  exact⟨r++qm m v (i+d),by show kC m v (i+d)++_=_; rw[hr,List.append_assoc]; rfl⟩
variable {m v:List Rat} {i:Nat} {y:Rat}
theorem SL (hi:i<3) (h:qm m v i=[y]):(kC m v 3).getD (kC m v i).length 0=y:=by
 obtain⟨r,hr⟩:=F5 m v (i+1) (2-i)
 rw[show i+1+(2-i)=3 by omega]at hr
 rw[hr]
 show((kC m v i++qm m v i)++r).getD _ 0=y
 rw[h,List.append_assoc,List.getD_eq_getElem?_getD,List.getElem?_append_right (Nat.le_refl _),Nat.sub_self]
 rfl
theorem uZ (m v:List Rat):∀i,(kC m v i).length<=i
 |0=>Nat.le_refl _
 |i+1=>by
  have h:=uZ m v i
  have h2:(qm m v i).length<=1:=by unfold qm; split<;>simp
  show(kC m v i++qm m v i).length<=_
  rw[List.length_append]
  omega
theorem wQ (h:qm m v i=[y]):(kC m v (i+1)).length=(kC m v i).length+1:=by
 show(kC m v i++qm m v i).length=_
 rw[h,List.length_append]
 rfl
theorem ML (h:v.getD i 0=0):(kC m v (i+1)).length=(kC m v i).length:=by
 show(kC m v i++qm m v i).length=_
 unfold qm
 rw[if_pos h,List.append_nil]
theorem Jv {J k:Nat} (hi:i<3) (h:qm m v i=[y]) (hk:k<=J):∀w u,pR k y w u->pR J ((kC m v 3).getD (kC m v i).length 0) w u:=λw u hu=>by
 rw[SL hi h]
 exact nF hk w u hu
theorem Iw {j jv:Nat} (h:m.length=16/\v.length=3/\j<=40000000/\jv<=40000000):K2 Tryz.prog 79 (pV au j m) (pV au jv v) (aA 3 true (kC m v 3).length λk=>pR (j+jv) ((kC m v 3).getD k 0)):=by
 intro M w0 v0 v1 hM hv0 eI
 refine rG (N:=52) Tryz.func79 rfl rfl rfl hM hv0 eI λa hI=>?_
 refine bf hI 3 [⟨2,2,some 0,none,.ptr,97,48,true,pv _,[]⟩,⟨3,3,some 1,none,.ptr,43,9,true,pv _,[]⟩] [] [Uc 2 4 _] .z (.kk .z) ⟨bo,bo,mv,trivial⟩ (.k (.k .z)) (.lQ .z) λa w hI=>?_
 refine bf hI 1 [] [] [Uc 0 5 _] (.k (.k .z)) (.k .z) ⟨mv,trivial⟩ (.k (.k .z)) (.kk .z) λa w hI=>?_
 have hI:=Zz (id:=52) (sz:=3) (ag:=true) (E:=40) (λk=>pR (j+jv) ((kC m v 3).getD k 0)) hI (by kernel_rfl)
 dsimp only[List.append,HAppend.hAppend,Append.append]at hI
 refine az ?_
 refine bf hI 2 [] [] [Uc 0 8 _,Uc 1 9 _] (.k (.k (.k .z))) (.kk .z) ⟨ld,mv,trivial⟩ (.k (.d (.k .z))) (.ah .z) λa w hI=>?_
 refine aC ?_
 refine tN [Vz 2 2 97 48 true _] [Uz 4 _,Uz 8 _] (λ(i:Nat×Value)=>[(AO 52 3 (kC m v i.1).length true 40 (λk=>pR (j+jv) ((kC m v 3).getD k 0)) i.2)]) (λ(i:Nat×Value)=>[Uz 9 (pI (i.1:Int)),Uz 5 (bg i.2)]) (λ(i:Nat×Value)=>i.1<=3) (λ(i:Nat×Value)=>3-i.1) ((0,.slice none 0 0)) (Nat.zero_le 3) hI ⟨vi,ZY,trivial⟩ ⟨gi,gi,gc,gc,trivial⟩ ?_
 intro i a w hi hI
 refine bf hI 1 [] [] [Uc 0 10 _] (.k (.k .z)) (.ah .z) ⟨bn,trivial⟩ (.k (.k .z)) (.ah (.k .z)) λa w hI=>?_
 refine az ?_
 refine mj hI (λt1=>?_) (λt1=>?_)
 ·
  refine aJ ?_
  refine ae ?_
  refine az ?_
  refine aC ?_
  refine bf hI 5 [⟨7,7,some 2,none,.ptr,40,3,true,pv _,[(4,pv _)]⟩] [] [Uc 0 11 _,Uc 1 12 _,Uc 3 6 _] (.k (.k .z)) (.ah (.k .z)) ⟨mv,Zm 3 i.1,fB [.r],mv,dM,trivial⟩ (.k (.k (.s .o .z))) (.ah (.dw .z)) λa w hI=>?_
  refine aC ?_
  refine bf hI 3 [] [] [Uc 0 24 _,Uc 1 25 _,Uc 2 23 _] (.k (.k (.k .z))) (.ah (.k .z)) ⟨ld,qi UA,mv,trivial⟩ (.k (.k (.k .z))) (.ah (.nh .z)) λa w hI=>?_
  refine mj hI (λt2=>?_) (λt2=>?_)
  ·
   have hl:=ML (m:=m) t2
   refine aJ ?_
   refine aG ?_
   refine aG ?_
   refine ae ?_
   refine qq hI 2 [] [] [Uc 0 50 _,Uc 1 9 _] (.k (.k (.k .z))) (.kk (.t 1 (.bS .z))) ⟨bn,mv,trivial⟩ (.k (.k (.d .z))) (.sq (.dw .z)) λa w hI=>?_
   refine ae ?_
   exact qR ((i.1+1,i.2)) (by(show i.1+1<=3); omega) hI ⟨vc,ZY (hl.symm),trivial⟩ ⟨gc,gc,gc,gc,trivial⟩ (by(show 3-(i.1+1)<3-i.1); omega)
  ·
   refine bf hI 3 [] [] [Uc 0 27 _,Uc 1 28 _,Uc 2 26 _] (.k (.k (.k .z))) (.ah (.kk .z)) ⟨mv,bn,mv,trivial⟩ (.k (.k (.k .z))) (.ah (.dx (.k .z))) λa w hI=>?_
   refine mj hI (λt3=>?_) (λt3=>?_)
   ·
    have hx:qm m v i.1=[m.getD 10 0/yL (v.getD i.1 0)]:=by unfold qm; rw[if_neg t2,if_pos (by omega)]
    have hl:=wQ hx
    have hle:=uZ m v i.1
    refine Xq hI [0,0,2,0,8,30,62,127,255] 7 [] [⟨some 1,30,2,30,True⟩] [Uc 0 29 _,Uc 2 31 _,Uc 3 32 _,Uc 4 33 _,Uc 5 34 _,Uc 6 35 _] (.k (.k (.k .z))) (.ah (.kk .z)) ⟨mv,fa,lV 10,ld,qi Xy,pq mD,bsR 40,trivial⟩ (.k (.k (.d .z))) (.cA (.Hf (.dw .z))) (UQ (n0:=1) (λk=>pR (j+jv) ((kC m v 3).getD k 0)) (x6 (Jv (by omega) hx (Nat.le_refl _)))) λa w hI=>?_
    obtain⟨s',hI⟩:=hI
    dsimp only[List.set]at hI
    refine aG ?_
    refine aG ?_
    refine ae ?_
    refine qq hI 2 [] [] [Uc 0 50 _,Uc 1 9 _] (.k (.k .z)) (.bS (.t 1 (.kk .z))) ⟨bn,mv,trivial⟩ (.k (.k .z)) (.cA (.dw .z)) λa w hI=>?_
    refine ae ?_
    exact qR ((i.1+1,s')) (by(show i.1+1<=3); omega) hI ⟨vc,ZY (hl.symm),trivial⟩ ⟨gc,gc,gc,gc,trivial⟩ (by(show 3-(i.1+1)<3-i.1); omega)
   ·
    refine bf hI 4 [] [] [Uc 0 38 _,Uc 1 39 _,Uc 2 40 _,Uc 3 37 _] (.k (.k (.k .z))) (.ah (.kk .z)) ⟨ld,qi GI,bn,mv,trivial⟩ (.k (.k (.k .z))) (.ah (.dx (.dk .z))) λa w hI=>?_
    refine mj hI (λt4=>?_) (λt4=>?_)
    ·
     have hx:qm m v i.1=[m.getD (6+i.1) 0/v.getD i.1 0]:=by unfold qm; rw[if_neg t2,if_neg (by omega),if_pos t4]
     have hl:=wQ hx
     have hle:=uZ m v i.1
     refine Xq hI [0,0,0,6,14,0,62,126,255,511] 8 [] [⟨some 2,43,2,18,True⟩,⟨some 3,44,2,18+(i.1)*3,True⟩] [Uc 0 41 _,Uc 1 42 _,Uc 4 45 _,Uc 5 46 _,Uc 6 47 _,Uc 7 48 _] (.k (.k (.k .z))) (.ah (.kk .z)) ⟨mv,mv,fa,iB 2 3 i.1,lV (6+(i.1)),ld,pq mD,bsR 40,trivial⟩ (.k (.k (.d .z))) (.cA (.Hf (.dw .z))) (UQ (n0:=1) (λk=>pR (j+jv) ((kC m v 3).getD k 0)) (x6 (Jv (by omega) hx (Nat.le_refl _)))) λa w hI=>?_
     obtain⟨s',hI⟩:=hI
     dsimp only[List.set]at hI
     refine aG ?_
     refine aG ?_
     refine ae ?_
     refine qq hI 2 [] [] [Uc 0 50 _,Uc 1 9 _] (.k (.k .z)) (.bS (.t 1 (.kk .z))) ⟨bn,mv,trivial⟩ (.k (.k .z)) (.cA (.dw .z)) λa w hI=>?_
     refine ae ?_
     exact qR ((i.1+1,s')) (by(show i.1+1<=3); omega) hI ⟨vc,ZY (hl.symm),trivial⟩ ⟨gc,gc,gc,gc,trivial⟩ (by(show 3-(i.1+1)<3-i.1); omega)
    ·
     have hx:qm m v i.1=[m.getD (8+i.1) 0 / -(v.getD i.1 0)]:=by unfold qm; rw[if_neg t2,if_neg (by omega),if_neg t4]
     have hl:=wQ hx
     have hle:=uZ m v i.1
     refine Xq hI [0,0,0,6,14,0,32,126,254,511,1023] 9 [] [⟨some 2,15,2,24,True⟩,⟨some 3,16,2,24+(i.1)*3,True⟩] [Uc 0 13 _,Uc 1 14 _,Uc 4 17 _,Uc 5 18 _,Uc 6 19 _,Uc 7 20 _,Uc 8 21 _] (.k (.k (.k .z))) (.ah (.kk .z)) ⟨mv,mv,fa,iB 2 3 i.1,lV (8+(i.1)),ld,qi w8,pq mD,bsR 40,trivial⟩ (.k (.k (.d .z))) (.cA (.Hf (.bh (.k .z)))) (UQ (n0:=1) (λk=>pR (j+jv) ((kC m v 3).getD k 0)) (x6 (Jv (by omega) hx (Nat.le_refl _)))) λa w hI=>?_
     obtain⟨s',hI⟩:=hI
     dsimp only[List.set]at hI
     refine aG ?_
     refine aG ?_
     refine ae ?_
     refine qq hI 2 [] [] [Uc 0 50 _,Uc 1 9 _] (.k (.k .z)) (.bS (.t 1 (.kk .z))) ⟨bn,mv,trivial⟩ (.k (.k .z)) (.cA (.dw .z)) λa w hI=>?_
     refine ae ?_
     exact qR ((i.1+1,s')) (by(show i.1+1<=3); omega) hI ⟨vc,ZY (hl.symm),trivial⟩ ⟨gc,gc,gc,gc,trivial⟩ (by(show 3-(i.1+1)<3-i.1); omega)
 ·
  refine bO ?_
  refine ak ?_
  refine ak ?_
  refine aH ?_
  refine ae ?_
  have e3:i.1=3:=by omega
  have hI:=Wo hI 1 5 rfl (by kernel_rfl)
  dsimp only[List.eraseIdx]at hI
  refine bf hI 2 [] [] [Uc 0 51 _,Uc 1 4 _] (.k .z) (.k (.t 1 (.ah .z))) ⟨mv,mv,trivial⟩ (.d .z) (.bh (.dw .z)) λa w hI=>?_
  refine aL ?_
  exact ck hI rfl (iu (hq:=λw u hu=>(by rw[e3]at hu; exact hu)))
end Wx

namespace Wx
set_option maxRecDepth 100000
set_option maxHeartbeats 1000000
open Go Go.RowKit Go.Proofs
set_option linter.unusedVariables false
attribute [local irreducible] OpOk
def Xl (e:Int) (p:Pred):Pred:=λw v=>(e=0->p w v)/\(e≠0->v=.slice none 0 0)
variable {e:Int} {p:Pred}
theorem KH (h:e=0):∀w v,p w v->Xl e p w v:=λ_ _ hp=>⟨λ_=>hp,λhn=>absurd h hn⟩
theorem DK (h:e≠0):∀w v,bg (.slice none 0 0) w v->Xl e p w v:=λ_ _ hp=>⟨λhn=>absurd hn h,λ_=>hp⟩
theorem SB (h:e=0):∀w v,Xl e p w v->p w v:=λ_ _ hp=>hp.1 h
variable {j:Nat}
theorem WB {s:List Rat} (hj:1<=j) (h:∀q,aZ j (s.getD q 0)):∀q,aZ j ((six s).getD q 0):=by
 refine ud hj ?_
 intro x hx
 unfold six at hx
 simp only[List.mem_cons,List.not_mem_nil,or_false]at hx
 rcases hx with rfl|rfl|rfl|rfl|rfl|rfl<;>exact h _
structure CF (n j jf J Jt ja jr:Nat) (ms:Nat->List Rat) (S:List bK) (fo mo:List Rat):Prop where
 Xj:jQ n j ms
 sz:j<=100000/\n<=1000000/\S.length<=1000000/\fo.length=3/\mo.length=3/\jf<=1000000/\1<=J/\J<=10000000/\1<=Jt/\Jt<=10000000/\1<=jr/\jr<=600000
 ok:lq n ms S=0->GG ms S fo mo 0 J Jt ja jr
variable {n:Nat} {ms:Nat->List Rat} {S:List bK} {fo mo:List Rat} {x:Rat}
theorem u3 (h:jl n ms S fo mo x=0):lq n ms S=0/\¬tY (tK (xN ms S S.length)) (wW fo mo (qn ms S x 0 S.length) (qn ms S x 1 S.length)):=by
 unfold jl at h
 by_cases h1:lq n ms S=0
 ·rw[if_neg (by rw[h1]; decide)]at h
  refine⟨h1,λhs=>?_⟩
  unfold Gc at h
  rw[if_pos hs]at h
  exact absurd h (by decide)
 ·rw[if_pos h1]at h
  exact absurd h h1
variable {jf J Jt ja jr:Nat}
theorem SM (h:CF n j jf J Jt ja jr ms S fo mo) (he:jl n ms S fo mo 0=0):∀q,aZ jr ((dm n ms S fo mo 0).getD q 0):=by
 unfold dm
 rw[if_pos he]
 have hz:=h.sz
 have hr:=(h.ok (u3 he).1).res (u3 he).2
 unfold KQ
 exact WB (by omega) hr
theorem Cl:(dm n ms S fo mo x).length=6:=by unfold dm; split<;>rfl
theorem Pf (h:CF n j jf J Jt ja jr ms S fo mo):K4 Tryz.prog 78 (aA 48 true n λi=>pV au j (ms i)) (aA 4 true S.length λi=>cP (ai S i)) (pV au jf fo) (pV au jf mo) (cN (Xl (jl n ms S fo mo 0) (aA 36 true S.length λi=>pV au (AM j jr 1) (Nt ms S (dm n ms S fo mo 0) 0 i))) (pI (jl n ms S fo mo 0))):=by
 intro M w0 v0 v1 v2 v3 hM hv0 eI hv2 hv3
 have hz:=h.sz
 have hl6:=Cl (n:=n) (ms:=ms) (S:=S) (fo:=fo) (mo:=mo) (x:=0)
 refine WK (N:=29) Tryz.func78 rfl rfl rfl hM hv0 eI hv2 hv3 λa hI=>?_
 refine bM hI 4 [Uc 0 6 _,Uc 1 7 _,Uc 2 8 _,Uc 3 9 _] (.ah .z) ⟨AK 9 true,AK 9 true,mv,mv,trivial⟩ (.dI (.ah .z)) λa w hI=>?_
 refine bf hI 12 [⟨10,10,some 9,none,.ptr,52,18,true,pv _,[(10,pv _)]⟩] [] [Uc 0 13 _,Uc 1 14 _,Uc 2 15 _,Uc 3 16 _,Uc 4 17 _,Uc 5 18 _,Uc 6 12 _,Uc 7 19 _,Uc 8 20 _,Uc 11 11 _] .z (.ah (.kk .z)) ⟨mv,mv,ld,ld,Z9,cb5 (Ma (n:=n) (j:=j) (jf:=jf) (jw:=1) (J:=J) (Jt:=Jt) (ja:=ja) (jr:=jr) (ms:=ms) (S:=S) (fo:=fo) (mo:=mo) (x:=0)) (hφ:=⟨h.Xj,by omega,by omega,by omega,by omega,by omega,by omega,by omega,by omega,by omega,by omega,by omega,by omega,by omega,h.ok⟩),mv,ext,ext,fB [.r,.r,.r,.r,.r,.r],dM,mv,trivial⟩ (.s .o .z) (.dI (.dI (.bh (.dw .z)))) λa w hI=>?_
 refine az ?_
 refine bf hI 2 [] [] [Uc 0 21 _,Uc 1 22 _] (.k .z) (.ah (.k .z)) ⟨mv,bn,trivial⟩ (.k .z) (.ah (.L8 .z)) λa w hI=>?_
 refine mj hI (λt1=>?_) (λt1=>?_)
 ·
  refine bf hI 3 [] [] [Uc 0 23 _,Uc 1 8 _,Uc 2 9 _] (.k .z) (.kk (.t 1 (.t 2 (.kk .z)))) ⟨mv,mv,mv,trivial⟩ (.k .z) (.dI (.dw (.k .z))) λa w hI=>?_
  refine aL ?_
  refine aB ?_
  exact jZ hI rfl (iu (hq:=DK t1)) iu
 ·
  have e0:jl n ms S fo mo 0=0:=Decidable.not_not.1 t1
  refine aJ ?_
  refine ae ?_
  refine bf hI 7 [] [] [Uc 0 24 _,Uc 1 25 _,Uc 2 26 _,Uc 3 27 _,Uc 4 28 _,Uc 5 8 _,Uc 6 9 _] (.k .z) (.kk (.t 5 (.t 6 (.kk .z)))) ⟨mv,mv,ld,Z9,cb4 (RZ (n:=n) (j:=j) (jr:=jr) (jx:=1) (ms:=ms) (S:=S) (st:=dm n ms S fo mo 0) (x:=0)) (hφ:=⟨mP h.Xj.m16 (u3 e0).1,h.Xj,Cq (u3 e0).1,Cl,by omega,by omega,by omega,by omega,by omega,SM h e0,XC⟩),mv,mv,trivial⟩ (.d .z) (.d8 (.dw (.k .z))) λa w hI=>?_
  refine aL ?_
  exact jZ hI rfl (iu (hq:=KH e0)) (iu (hq:=bk e0.symm))
variable {k:Nat}
theorem Cg {y:Rat} (h:x=y) (hk:j<=k):∀w v,pR j x w v->pR k y w v:=h▸nF hk
def Ps (s:Bool×Rat) (x:Rat):Bool×Rat:=if(!s.1||decide (vS x s.2<0))=true then(true,x)else s
variable {s:Bool×Rat}
theorem Pt (h:(!s.1||decide (vS x s.2<0))=true):Ps s x=(true,x):=if_pos h
theorem Sb (h:(!s.1||decide (vS x s.2<0))=false):Ps s x=s:=if_neg (by rw[h]; exact Bool.false_ne_true)
def SR (ms:Nat->List Rat) (S:List bK) (st:List Rat) (i t:Nat):List Rat:=kC (ms (ai S i).gP.toNat) ((((((Nt ms S st 0 i).drop (t*6)).take 6).drop 0).take 3)) 3
def Xm (ms:Nat->List Rat) (S:List bK) (st:List Rat) (i:Nat) (s:Bool×Rat):Nat->Bool×Rat
 |0=>s
 |t+1=>(SR ms S st i t).foldl Ps (Xm ms S st i s t)
def Qe (ms:Nat->List Rat) (S:List bK) (st:List Rat):Nat->Bool×Rat
 |0=>(false,0)
 |i+1=>Xm ms S st i (Qe ms S st i) 2
def Ws (ms:Nat->List Rat) (S:List bK) (st:List Rat) (i t k:Nat):Bool×Rat:=((SR ms S st i t).take k).foldl Ps (Xm ms S st i (Qe ms S st i) t)
variable {st:List Rat} {i t:Nat}
theorem Gb (hk:k<(SR ms S st i t).length):Ws ms S st i t (k+1)=Ps (Ws ms S st i t k) ((SR ms S st i t).getD k 0):=by
 unfold Ws
 rw[List.take_succ_eq_append_getElem hk,List.foldl_append,List.getD_eq_getElem?_getD,List.getElem?_eq_getElem hk]
 rfl
theorem SQ:Ws ms S st i t (SR ms S st i t).length=Xm ms S st i (Qe ms S st i) (t+1):=by
 unfold Ws
 rw[List.take_length]
 rfl
noncomputable def Be (n:Nat) (ms:Nat->List Rat) (S:List bK) (fo mo:List Rat):Int:=if jl n ms S fo mo 0≠0 then jl n ms S fo mo 0 else if(!(Qe ms S (dm n ms S fo mo 0) S.length).1)=true then 5 else 0
open Classical in
noncomputable def MV (n:Nat) (ms:Nat->List Rat) (S:List bK) (fo mo:List Rat):Rat:=if Be n ms S fo mo=0 then(Qe ms S (dm n ms S fo mo 0) S.length).2 else 0
theorem Qr {l:List Rat} (h:l.length=12) (ht:t<2):(((((l.drop (t*6)).take 6).drop 0).take 3)).length=3:=by
 simp only[List.length_take,List.length_drop]
 omega
theorem L9 (h:CF n j jf J Jt ja jr ms S fo mo):K4 Tryz.prog 31 (aA 48 true n λi=>pV au j (ms i)) (aA 4 true S.length λi=>cP (ai S i)) (pV au jf fo) (pV au jf mo) (cN (pR (j+AM j jr 1) (MV n ms S fo mo)) (pI (Be n ms S fo mo))):=by
 intro M w0 v0 v1 v2 v3 hM hv0 eI hv2 hv3
 have hz:=h.sz
 have hF1:Ns j jr 1=(612+4*(jr+(jr+28)+1))+(j+1)+1:=rfl
 have hF2:AM j jr 1=1+3*(28*j+2404+Ns j jr 1+1):=rfl
 refine WK (N:=75) Tryz.func31 rfl rfl rfl hM hv0 eI hv2 hv3 λa hI=>?_
 refine bf hI 4 [⟨8,8,some 2,none,.ptr,40,3,true,pv _,[]⟩] [] [Uc 0 6 _,Uc 1 7 _,Uc 3 9 _] .z (.ah .z) ⟨AK 9 true,AK 9 true,fB [.r],mv,trivial⟩ (.k .z) (.dI (.bS .z)) λa w hI=>?_
 refine bf hI 10 [] [] [Uc 0 21 _,Uc 1 22 _,Uc 2 23 _,Uc 3 24 _,Uc 4 25 _,Uc 5 20 _,Uc 6 26 _,Uc 7 27 _,Uc 8 10 _,Uc 9 11 _] (.k .z) (.ah (.k .z)) ⟨mv,mv,ld,ld,cb4 (Pf (n:=n) (j:=j) (jf:=jf) (J:=J) (Jt:=Jt) (ja:=ja) (jr:=jr) (ms:=ms) (S:=S) (fo:=fo) (mo:=mo)) (hφ:=h),mv,ext,ext,mv,mv,trivial⟩ (.k .z) (.dI (.dx (.bh (.Ok .z)))) λa w hI=>?_
 refine az ?_
 refine bf hI 2 [] [] [Uc 0 28 _,Uc 1 29 _] (.k .z) (.ah (.k .z)) ⟨mv,bn,trivial⟩ (.k .z) (.ah (.L8 .z)) λa w hI=>?_
 refine mj hI (λt1=>?_) (λt1=>?_)
 ·
  have e1:Be n ms S fo mo=jl n ms S fo mo 0:=by unfold Be; rw[if_pos t1]
  refine bf hI 4 [] [] [Uc 0 30 _,Uc 1 31 _,Uc 3 9 _] (.u none [(2,pv _)] .z) (.kk (.t 3 (.bS .z))) ⟨Z9,mv,dM,mv,trivial⟩ (.s .o .z) (.sq (.bh (.k .z))) λa w hI=>?_
  refine aL ?_
  refine aB ?_
  exact jZ hI rfl (r7 (hq:=Cg (by unfold MV; rw[if_neg (by rw[e1]; exact t1)]) (by omega))) (iu (hq:=bk e1.symm))
 ·
  have e0:jl n ms S fo mo 0=0:=Decidable.not_not.1 t1
  have hok:=mP h.Xj.m16 (u3 e0).1
  refine aJ ?_
  refine ae ?_
  have hI:=CN hI 10 (SB e0)
  refine bf hI 1 [⟨12,12,some 0,none,.ptr,40,3,true,pv _,[]⟩] [] [] (.k .z) (.ah (.bS .z)) ⟨fB [.r],trivial⟩ (.k (.k .z)) (.ah (.kdd .z)) λa w hI=>?_
  refine bf hI 1 [] [] [Uc 0 13 _] (.k (.k .z)) (.ah (.k .z)) ⟨mv,trivial⟩ (.k (.k .z)) (.ah (.kk .z)) λa w hI=>?_
  refine az ?_
  refine bf hI 3 [] [] [Uc 0 32 _,Uc 1 33 _,Uc 2 34 _] (.k (.k .z)) (.ah (.kk .z)) ⟨mv,ln,mv,trivial⟩ (.k (.k .z)) (.mw (.mw (.k .z))) λa w hI=>?_
  refine aC ?_
  refine tN [Vz 8 8 40 3 true _] [Uz 0 _,Uz 1 _,Uz 9 _,Uz 32 _,Uz 33 _] (λ(i:Nat)=>[Vz 12 12 40 3 true (pR (j+AM j jr 1) (Qe ms S (dm n ms S fo mo 0) i).2)]) (λ(i:Nat)=>[Uz 34 (pI (i:Int)),Uz 13 (pB (Qe ms S (dm n ms S fo mo 0) i).1)]) (λ(i:Nat)=>i<=S.length) (λ(i:Nat)=>S.length-i) (0) (Nat.zero_le _) hI ⟨vi,vC (ads (k:=(j+AM j jr 1)) (x:=(Qe ms S (dm n ms S fo mo 0) 0).2) rfl (by omega)),trivial⟩ ⟨gi,gi,gi,gi,gi,gc,gc,trivial⟩ ?_
  intro i a w hi hI
  refine bf hI 1 [] [] [Uc 0 35 _] (.k (.k .z)) (.ah (.bS .z)) ⟨bn,trivial⟩ (.k (.k .z)) (.k8 .z) λa w hI=>?_
  refine az ?_
  refine mj hI (λt2=>?_) (λt2=>?_)
  ·
   have LU:=hok.gP i (by omega)
   have Nz:=h.Xj.m16 (ai S i).gP.toNat (by omega)
   refine aJ ?_
   refine ae ?_
   refine az ?_
   refine aC ?_
   have hl12:=C9 (ms:=ms) (S:=S) (st:=(dm n ms S fo mo 0)) (x:=0) (i:=i)
   refine bf hI 6 [⟨15,15,some 3,none,.ptr,72,36,true,pv _,[(5,pv _)]⟩] [] [Uc 0 36 _,Uc 1 37 _,Uc 2 38 _,Uc 4 14 _] (.k (.k .z)) (.k8 .z) ⟨mv,ix,ld,lE (AM j jr 1) 12,mv,dM,trivial⟩ (.k (.k (.s .o .z))) (.ah (.cA (.dw .z))) λa w hI=>?_
   refine bf hI 2 [] [] [Uc 0 39 _,Uc 1 40 _] (.k (.k (.k .z))) (.k8 .z) ⟨ld,mv,trivial⟩ (.k (.k (.d .z))) (.k8 (.kk .z)) λa w hI=>?_
   refine aC ?_
   refine tN [Vz 8 8 40 3 true _] [Uz 0 _,Uz 1 _,Uz 9 _,Uz 32 _,Uz 33 _,Uz 34 _,Uz 14 _,Uz 39 _] (λ(t:Nat)=>[Vz 12 12 40 3 true (pR (j+AM j jr 1) (Xm ms S (dm n ms S fo mo 0) i (Qe ms S (dm n ms S fo mo 0) i) t).2)]) (λ(t:Nat)=>[Uz 40 (pI (t:Int)),Uz 13 (pB (Xm ms S (dm n ms S fo mo 0) i (Qe ms S (dm n ms S fo mo 0) i) t).1)]) (λ(t:Nat)=>t<=2) (λ(t:Nat)=>2-t) (0) (Nat.zero_le 2) hI ⟨vi,vc,trivial⟩ ⟨gi,gi,gi,gi,gi,gi,gi,gi,gc,gc,trivial⟩ ?_
   intro t a w ht hI
   refine bf hI 1 [] [] [Uc 0 41 _] (.k (.k .z)) (.k8 (.kk .z)) ⟨bn,trivial⟩ (.k (.k .z)) (.k8 (.bS .z)) λa w hI=>?_
   refine az ?_
   refine mj hI (λt3=>?_) (λt3=>?_)
   ·
    have hRL:(SR ms S (dm n ms S fo mo 0) i t).length=(kC (ms (ai S i).gP.toNat) (((((Nt ms S (dm n ms S fo mo 0) 0 i).drop (t*6)).take 6).drop 0).take 3) 3).length:=rfl
    have hRle:=uZ (ms (ai S i).gP.toNat) ((((((Nt ms S (dm n ms S fo mo 0) 0 i).drop (t*6)).take 6).drop 0).take 3)) 3
    refine aJ ?_
    refine ae ?_
    refine az ?_
    refine aC ?_
    have hl6:(((Nt ms S (dm n ms S fo mo 0) 0 i).drop (t*6)).take 6).length=6:=by simp only[List.length_take,List.length_drop,C9]; omega
    refine bf hI 3 [⟨17,17,some 1,none,.ptr,71,18,true,pv _,[(2,pv _)]⟩] [] [Uc 0 42 _] (.k (.k .z)) (.k8 (.bS .z)) ⟨iV 2 6 t,lE (AM j jr 1) 6,dM,trivial⟩ (.k (.k (.s .o .z))) (.k8 (.dI .z)) λa w hI=>?_
    refine mR hI [0,0,0,6,14,30,63,127,0,256,1023,2047,0] [] [⟨some 8,51,17,0,True⟩] [Uc 0 43 _,Uc 1 44 _,Uc 2 45 _,Uc 3 46 _,Uc 4 47 _,Uc 5 48 _,Uc 6 49 _,Uc 7 50 _,Uc 9 52 _,Uc 10 53 _,Uc 11 54 _,Uc 12 55 _] (.k (.k (.k .z))) (.k8 (.kk .z)) ⟨mv,mv,mv,ix,fP 0 1 false,ld,ix,ld,fa,lW 0 3,pq (Iw (m:=ms (ai S i).gP.toNat) (v:=((((Nt ms S (dm n ms S fo mo 0) 0 i).drop (t*6)).take 6).drop 0).take 3) (j:=j) (jv:=AM j jr 1)) (hφ:=⟨Nz,Qr C9 (by omega),by omega,by omega⟩),ln,mv,trivial⟩ (.k (.k (.d .z))) (.k8 (.dI (.bh (.dw (.kk .z))))) λa w hI=>?_
    refine aC ?_
    refine tN [Vz 8 8 40 3 true _] [Uz 0 _,Uz 1 _,Uz 9 _,Uz 32 _,Uz 33 _,Uz 34 _,Uz 14 _,Uz 39 _,Uz 40 _,Uz 53 _,Uz 54 _] (λ(k:Nat)=>[Vz 12 12 40 3 true (pR (j+AM j jr 1) (Ws ms S (dm n ms S fo mo 0) i t k).2)]) (λ(k:Nat)=>[Uz 55 (pI (k:Int)),Uz 13 (pB (Ws ms S (dm n ms S fo mo 0) i t k).1)]) (λ(k:Nat)=>k<=(SR ms S (dm n ms S fo mo 0) i t).length) (λ(k:Nat)=>(SR ms S (dm n ms S fo mo 0) i t).length-k) (0) (Nat.zero_le _) hI ⟨vi,vc,trivial⟩ ⟨gi,gi,gi,gi,gi,gi,gi,gi,gi,gi,gi,gc,gc,trivial⟩ ?_
    intro k a w hk hI
    refine bf hI 1 [] [] [Uc 0 56 _] (.k (.k .z)) (.k8 (.ah (.k .z))) ⟨bn,trivial⟩ (.k (.k .z)) (.k8 (.ah (.kk .z))) λa w hI=>?_
    refine az ?_
    refine mj hI (λt4=>?_) (λt4=>?_)
    ·
     refine aJ ?_
     refine ae ?_
     refine az ?_
     refine aC ?_
     refine bf hI 4 [⟨19,19,some 2,none,.ptr,40,3,true,pv _,[(3,pv _)]⟩] [] [Uc 0 57 _,Uc 1 58 _] (.k (.k .z)) (.k8 (.ah (.kk .z))) ⟨ix,ld,fB [.r],dM,trivial⟩ (.k (.k (.s .o .z))) (.k8 (.ah (.dx .z))) λa w hI=>?_
     refine bf hI 8 [] [] [Uc 0 59 _,Uc 1 60 _,Uc 2 61 _,Uc 3 62 _,Uc 4 63 _,Uc 5 64 _,Uc 6 65 _,Uc 7 66 _] (.k (.k (.k .z))) (.k8 (.ah (.k .z))) ⟨mv,nt,mv,gd λh=>Fa h,gd λh=>Fa h,gd λh=>LL h Xz,gd λh=>ya h,pk,trivial⟩ (.k (.k (.k .z))) (.k8 (.ah (.dx (.bh (.k .z))))) λa w hI=>?_
     refine Cy hI (λt5=>?_) (λt5=>?_)
     ·
      have O5:=(Gb (ms:=ms) (S:=S) (st:=(dm n ms S fo mo 0)) (i:=i) (t:=t) (k:=k) (by omega)).trans (Pt t5)
      refine qq hI 3 [] [] [Uc 0 67 _,Uc 2 13 _] (.k (.u none [(1,pv _)] (.k .z))) (.k8 (.ah (.t 2 (.k .z)))) ⟨ld,dM,mv,trivial⟩ (.k (.s .o (.d .z))) (.k8 (.ah (.dw .z))) λa w hI=>?_
      refine aG ?_
      refine ae ?_
      refine qq hI 2 [] [] [Uc 0 68 _,Uc 1 55 _] (.k (.k .z)) (.k8 (.bS (.t 1 (.k .z)))) ⟨bn,mv,trivial⟩ (.k (.k .z)) (.k8 (.cA (.L8 .z))) λa w hI=>?_
      refine ae ?_
      exact qR (k+1) (by omega) hI ⟨vc,vC (Cg (congrArg Prod.snd O5).symm (Nat.le_refl _)),trivial⟩ ⟨gc,gc,gc,gc,gc,gc,gc,gc,gc,gc,gc,gc,gC (gw (congrArg Prod.fst O5).symm),trivial⟩ (by omega)
     ·
      have O5:=(Gb (ms:=ms) (S:=S) (st:=(dm n ms S fo mo 0)) (i:=i) (t:=t) (k:=k) (by omega)).trans (Sb t5)
      refine aJ ?_
      refine aG ?_
      refine ae ?_
      refine qq hI 2 [] [] [Uc 0 68 _,Uc 1 55 _] (.k (.k (.k .z))) (.k8 (.bS (.t 1 (.kk .z)))) ⟨bn,mv,trivial⟩ (.k (.k (.d .z))) (.k8 (.cA (.nh .z))) λa w hI=>?_
      refine ae ?_
      exact qR (k+1) (by omega) hI ⟨vc,vC (Cg (congrArg Prod.snd O5).symm (Nat.le_refl _)),trivial⟩ ⟨gc,gc,gc,gc,gc,gc,gc,gc,gc,gc,gc,gc,gC (gw (congrArg Prod.fst O5).symm),trivial⟩ (by omega)
    ·
     refine bO ?_
     refine ak ?_
     refine ak ?_
     refine aH ?_
     refine aG ?_
     refine ae ?_
     refine qq hI 2 [] [] [Uc 0 69 _,Uc 1 40 _] (.k (.k .z)) (.k8 (.t 1 (.ah (.k .z)))) ⟨bn,mv,trivial⟩ (.k (.k .z)) (.k8 (.bh (.nh .z))) λa w hI=>?_
     refine ae ?_
     have hek:=SQ (ms:=ms) (S:=S) (st:=(dm n ms S fo mo 0)) (i:=i) (t:=t)
     have ek:k=(SR ms S (dm n ms S fo mo 0) i t).length:=by omega
     rw[<-ek]at hek
     exact qR (t+1) (by omega) hI ⟨vc,vC (Cg (congrArg Prod.snd hek) (Nat.le_refl _)),trivial⟩ ⟨gc,gc,gc,gc,gc,gc,gc,gc,gc,gC (gw (congrArg Prod.fst hek)),trivial⟩ (by omega)
   ·
    refine bO ?_
    refine ak ?_
    refine ak ?_
    refine aH ?_
    refine aG ?_
    refine ae ?_
    refine qq hI 2 [] [] [Uc 0 70 _,Uc 1 34 _] (.k (.k .z)) (.ah (.k (.t 1 (.ah (.k .z))))) ⟨bn,mv,trivial⟩ (.k (.k .z)) (.ah (.dx (.LC (.k .z)))) λa w hI=>?_
    refine ae ?_
    obtain rfl:t=2:=by omega
    exact qR (i+1) (by omega) hI ⟨vc,vc,trivial⟩ ⟨gc,gc,gc,gc,gc,gc,gc,trivial⟩ (by omega)
  ·
   refine bO ?_
   refine ak ?_
   refine ak ?_
   refine aH ?_
   refine ae ?_
   refine az ?_
   obtain rfl:i=S.length:=by omega
   refine bf hI 2 [] [] [Uc 0 71 _,Uc 1 72 _] (.k (.k .z)) (.k8 .z) ⟨mv,nt,trivial⟩ (.k (.k .z)) (.Hf (.bh (.dk .z))) λa w hI=>?_
   refine Cy hI (λt6=>?_) (λt6=>?_)
   ·
    have e2:Be n ms S fo mo=5:=by unfold Be; rw[if_neg t1,if_pos t6]
    refine bf hI 3 [] [] [Uc 0 73 _,Uc 2 9 _] (.u none [(1,pv _)] (.k .z)) (.t 2 (.k .z)) ⟨Z9,dM,mv,trivial⟩ (.s .o (.k .z)) (.dw .z) λa w hI=>?_
    refine aL ?_
    refine aB ?_
    exact jZ hI rfl (r7 (hq:=Cg (by unfold MV; rw[if_neg (by rw[e2]; decide)]) (by omega))) (iu (hq:=bk e2.symm))
   ·
    have e3:Be n ms S fo mo=0:=by unfold Be; rw[if_neg t1,if_neg (by rw[t6]; exact Bool.false_ne_true)]
    refine aJ ?_
    refine ae ?_
    refine bf hI 3 [] [] [Uc 0 74 _,Uc 2 9 _] (.u none [(1,pv _)] (.k .z)) (.t 2 (.k .z)) ⟨ld,dM,mv,trivial⟩ (.s .o (.d .z)) (.dw .z) λa w hI=>?_
    refine aL ?_
    exact jZ hI rfl (r7 (hq:=Cg (by unfold MV; rw[if_pos e3]) (Nat.le_refl _))) (iu (hq:=bk e3.symm))
end Wx
