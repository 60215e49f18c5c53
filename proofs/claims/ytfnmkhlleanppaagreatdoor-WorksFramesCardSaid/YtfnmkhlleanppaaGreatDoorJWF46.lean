import Derived.Test.YtfnmkhlleanppaaGreatDoorJWF45
import Derived.Test.YtfnmkhlleanppaaGreatDoorJWF43
namespace Wx
open Go Go.RowKit Go.Proofs
set_option linter.unusedVariables false
abbrev kY (s:ByteArray) (k:Nat):ByteArray:=(ak s).getD (1+k) ⟨#[]⟩
abbrev Ff (s:ByteArray):Pred:=az 1 false ((ak s).length-1) λk=>pT (kY s k)
def qB (k:Nat):ByteArray->Bool:=if k=0 then iH else fI
theorem tW:∀w v,az 1 false 2 (λk=>[aD,eB].getD k ay) w v->az 1 false 2 (λk=>sI Tryz.prog (nD Tryz.prog (qB k))) w v:=dS λk hk w v h=>by
 match k,hk,h with
 |0,_,h=>exact h
 |1,_,h=>exact h
theorem zK:∀w v,az 1 false 1 (λk=>[aD].getD k ay) w v->az 1 false 1 (λk=>sI Tryz.prog (nD Tryz.prog iH)) w v:=dS λk hk w v h=>by
 match k,hk,h with
 |0,_,h=>exact h
theorem AV {a b:Nat} (e:b=a):∀w v,aL (.pointer (some ⟨a,0,none⟩)) w v->aL (.pointer (some ⟨b,0,none⟩)) w v:=by subst e; exactλ_ _ h=>h
theorem iW {s:ByteArray} {k:Nat} (h:s.size<=1000000):(kY s k).size<=1000000:=by
 unfold kY
 by_cases hk:1+k<(ak s).length
 ·exact Nat.le_trans (gX (kq hk)) h
 ·rw[List.getD_eq_getElem?_getD,List.getElem?_eq_none (by omega)]
  show 0<=1000000
  omega
section
variable {P:Program} {ops:Array Oper} {ms:List Nat} {c:bO} {V:List Vr} {A:List Al} {G:List aK} {i d:Nat} {x y z:Operand} {ty:TypeId} {pos:String} {ax:Array Edge}
theorem C3 {T:TypeId} {v:Vr} (cs:List Value) (hn:∀u∈cs,dx u) (hv:qE i V=some v:=by exact rfl) (hT:v.T=T:=by exact rfl) (cn:v.kd=.ptr:=by exact rfl) (hc:v.c0=pv ay:=by exact rfl)
  (hz:∀w,(zeroValue T).run P w=.ok (.agg cs.toArray) w:=by exactλ_=>by kernel_rfl) (hl:cs.length=v.n:=by kernel_rfl) (hst:((v.st.all λq=>(ms.getD q.1 0).testBit i)&&V.all λy=>y.dead != some i)=true:=by kernel_rfl) (hno:(G.all λe=>e.tag != some i)=true:=by kernel_rfl) (hal:(A.all λp=>p.var != v.id||p.tag.any λj=>(ms.getD j 0).testBit i)=true:=by kernel_rfl):
  OpOk P ops ms c V A G i ⟨some d,.alloc T,ty,pos,ax,none⟩:=by
 obtain⟨⟨k,hk⟩,hb⟩:=dN hv
 exact kA k hk hb hst hno hal hT cn hz rfl hl hn hc λw=>trivial
end
theorem oC:dx .nilFunc:=λ_=>⟨(by simp),by simp⟩
theorem jL:∀u∈[Value.slice none 0 0,.nilFunc],dx u:=λu hu=>by
 rcases List.mem_cons.1 hu with rfl|hu
 ·exact bt _ _ _
 ·rw[List.mem_singleton.1 hu]; exact oC
variable {p1:Pred}
theorem iC {p2:Pred} (h1:Fits 1 false p1) (h2:Fits 1 false p2):Fits 2 true (cO p1 p2):=mM (fs:=[⟨false,1,p1⟩,⟨false,1,p2⟩]) ⟨h1,h2,trivial⟩ rfl
theorem zb {Λ:Type} {C:Λ->Prop} {E:Λ->Ending} {H:Λ->List Bk} {P:Program} {w:World} {fn:Func} {f:FuncId} {D:Code} {v0 v1:Value} {M:Nat->Nat->Prop} {B:Nat->Prop} {p0:Pred} {N:Nat} {H0:List Bk} (hf:P.funcs[f]?=some fn) (hb:fn.body=some D) (hN:fn.ntmps=N) (hlen:decide ([v0,v1].length<=N)=true) (hM:da M w) (jc:∀k,B k->∀o,¬M k o) (hH:bR B w H0)
  (h0:aN (plus M B) (λw=>p0 w v0) w) (h1:aN (plus M B) (λw=>p1 w v1) w) (h:∀a,Inv ⟨N,w,M,B⟩ [aQ N N H0] [] [Uz 0 p0,Uz 1 p1] none_ a w->D.ww none [] P (bodyPostD P fn (ig B C E H w)) a w):Calls P f #[v0,v1] w (ig B C E H w):=
 rO (G:=[Uz 0 p0,Uz 1 p1]) hf hb hN hlen hM jc hH (show dV (plus M B) w [v0,v1] [Uz 0 p0,Uz 1 p1]from⟨⟨rfl,_,rfl,h0⟩,⟨rfl,_,rfl,h1⟩,trivial⟩) h
end Wx

namespace Wx
set_option maxRecDepth 100000
set_option maxHeartbeats 1000000
open Go Go.RowKit Go.Proofs
set_option linter.unusedVariables false
attribute [local irreducible] OpOk
variable {q:Nat} {l:HL} {bs bs':List fW} {cs:List ByteArray} {s:ByteArray} {f:FuncId}
theorem Cu (hl:fC l bs cs) (hc:cs.length<=40/\q<=100000/\s.size<=200) (hs1:bg s=true/\di ((ak s).getD 0 ⟨#[]⟩) comms=some (cO (az 1 false 2 λk=>[aD,eB].getD k ay) (aL (.func (.func f) #[] #[])))/\eH ((ak s).length-1) 2 (kY s) qB=true/\2<=(ak s).length) (hf:aC Tryz.prog f) (eR:L2 Tryz.prog f (aY q l bs cs) (aL (.pointer (some ⟨l.hb,0,none⟩))) (Ff s) (λl':HL=>fC l' bs' cs/\l'.hb=l.hb) (λ_=>.returned (.tuple #[])) (λl'=>aY q l' bs' cs)):L2 Tryz.prog 23 (aY q l bs cs) (aL (.pointer (some ⟨l.hb,0,none⟩))) (pT s) (λl':HL=>fC l' bs' (cs++[s])/\l'.hb=l.hb) (λ_=>.returned (.int .i64 0)) (λl'=>aY (q+300) l' bs' (cs++[s])):=by
 intro M B w0 v0 v1 hM jc hH jB hv0 dc
 have hG:aN (λk o=>M k o\/B k) jz w0:=jB
 have tq:kW (aY q l bs cs):=hH.2.1
 have hsz:s.size<=1000000:=by omega
 have hlen:0<(ak s).length:=by rw[cx]; omega
 have zQ:(!bg s)=false:=by rw[hs1.1]; rfl
 have zR:(!true||!eH ((ak s).length-1) 2 (kY s) qB)=false:=by rw[hs1.2.2.1]; rfl
 have hgt:¬(s.size:Int)>200:=by omega
 refine zb (N:=49) Tryz.func23 rfl rfl rfl hM jc hH hv0 dc λa hI=>?_
 refine cD hI 1 [⟨4,4,some 0,none,.ptr,25,1,false,pv _,[]⟩] [] [] (.k .z) (.kk .z) ⟨CC .i,trivial⟩ (.k (.k .z)) (.kk .z) λa w hI=>?_
 refine ah ?_
 refine aI ?_
 refine cD hI 3 [] [] [Uc 0 9 _,Uc 1 10 _,Uc 2 8 _] (.k (.k .z)) (.kk .z) ⟨mv,rN false,mv,trivial⟩ (.k (.k .z)) (.cg (.k .z)) λa w hI=>?_
 refine nx hI (rfl) ?_
 refine cD hI 4 [] [] [Uc 0 12 _,Uc 1 13 _,Uc 2 14 _,Uc 3 11 _] (.k (.k .z)) (.aP .z) ⟨mv,oz,bn,mv,trivial⟩ (.k (.k .z)) (.cg (.fh .z)) λa w hI=>?_
 refine nx hI (decide_eq_false hgt) ?_
 refine cD hI 4 [] [] [Uc 0 16 _,Uc 1 17 _,Uc 2 18 _,Uc 3 15 _] (.k (.k .z)) (.aP .z) ⟨mv,wq hG (kj (s:=s)) (hφ:=hsz),nt,mv,trivial⟩ (.k (.k .z)) (.cg (.fh .z)) λa w hI=>?_
 refine nx hI (zQ) ?_
 refine av ?_
 refine bF ?_
 refine af ?_
 refine cD hI 3 [] [] [Uc 0 19 _,Uc 1 20 _,Uc 2 5 _] (.k (.k .z)) (.aP .z) ⟨mv,zC hG (iK (s:=s)) (hφ:=hsz),mv,trivial⟩ (.k (.k .z)) (.cg (.dk .z)) λa w hI=>?_
 refine vV hI [0,0,2,6,15,31,63,63,0,383,1023] [⟨6,6,some 8,none,.ptr,117,2,true,pv _,[(9,pv _)]⟩] [] [Uc 0 22 _,Uc 1 23 _,Uc 2 24 _,Uc 3 25 _,Uc 4 26 _,Uc 5 21 _,Uc 6 27 _,Uc 7 28 _,Uc 10 7 _] (.k (.k .z)) (.aP .z) ⟨BN ki (hφ:=trivial),mv,bh 0 hs hs rfl (pt rfl) hlen (by kernel_rfl) (by kernel_rfl),aH hs (pt rfl) (by kernel_rfl) (aT _),Em 9 117 (.agg #[.slice none 0 0,.nilFunc]) hs1.2.1,mv,ext,ext,C3 [.slice none 0 0,.nilFunc] jL,iN rfl rfl hs rfl rfl (cP (by kernel_rfl)) (iC aJ (bf _)) (by kernel_rfl),mv,trivial⟩ (.k (.k (.s .o .z))) (.bq (.bN (.bV .z))) λa w hI=>?_
 have hI:=gZ hI 2 rfl (by kernel_rfl)
 dsimp only[List.eraseIdx]at hI
 refine ah ?_
 refine vV hI [0,1,3,7,15,7,39,127,255,511] [] [] [Uc 0 29 _,Uc 1 30 _,Uc 2 31 _,Uc 3 32 _,Uc 4 33 _,Uc 5 34 _,Uc 6 35 _,Uc 7 36 _,Uc 8 37 _,Uc 9 38 _] (.k (.k .z)) (.ae (.k .z)) ⟨mv,nt,mv,gd λh=>er h,gd λh=>A7 1 (h:=hg) (hp:=pg h rfl),gd λh=>fP 0 1 false (h:=hg) (hp:=pg h rfl),gd λh=>aH hg (pg h rfl) (by kernel_rfl) aJ,gd λh=>pU h (mU (g:=kY s) (φ:=qB)) (c2:=tW) (hφ:=⟨by have:=fq hsz; omega,by omega,λk _=>iW hsz⟩),gd λh=>EX h,pk,trivial⟩ (.k (.k .z)) (.ae (.d8 (.fh .z))) λa w hI=>?_
 refine nx hI (zR) ?_
 refine av ?_
 refine af ?_
 obtain⟨g,hI⟩:=Inv.ri hI 1 rfl rfl rfl
 refine oY hI rfl (by kernel_rfl) (by kernel_rfl) (by kernel_rfl) λa w hI=>?_
 refine EH hI [0,1,0,0,8,31] 5 [] [] [Uc 0 40 _,Uc 1 41 _,Uc 2 42 _,Uc 3 43 _,Uc 4 44 _] (.k (.k .z)) (.ae (.kk .z)) ⟨fP 1 1 false,aH hs (pt rfl) (by kernel_rfl) (bf _),mv,mv,A7 1,trivial⟩ (.k (.k .z)) (.oo (.bV (.kU .z))) (⟨_,DC hG eR (hf:=hf),rfl⟩) λa w hI=>?_
 obtain⟨l1,po,hI⟩:=hI
 refine jn hI 3 2 [] [] [Uc 0 46 _,Uc 1 47 _] (.k (.k .z)) (.ae (.aP .z)) ⟨mv,mv,trivial⟩ (.k (.k .z)) (.nP (.bV (.k .z))) (⟨_,zD hG (At (q:=q) (l:=l1) (bs:=bs') (cs:=cs) (s:=s) po.1 hc) (c1:=AV po.2),rfl⟩) λa w hI=>?_
 obtain⟨l2,hl2,hI⟩:=hI
 refine cD hI 1 [] [] [] (.k (.u none [(0,pv _)] .z)) (.ae .z) ⟨Gu,trivial⟩ (.k (.s .o .z)) (.nP .z) λa w hI=>?_
 refine aA ?_
 exact tN (g:=g) l2 ⟨hl2.1,hl2.2.1.trans po.2⟩ hI rfl GC rfl
theorem Cv (hl:fC l bs cs) (hc:cs.length<=40/\q<=100000/\s.size<=200) (hs1:bg s=true/\di ((ak s).getD 0 ⟨#[]⟩) comms=some (cO (az 1 false 2 λk=>[aD,eB].getD k ay) (aL (.func (.func f) #[] #[])))/\eH ((ak s).length-1) 2 (kY s) qB=true/\2<=(ak s).length) (hf:aC Tryz.prog f) {e:Int} (eR:L2 Tryz.prog f (aY q l bs cs) (aL (.pointer (some ⟨l.hb,0,none⟩))) (Ff s) (λl':HL=>fC l' bs' cs/\l'.hb=l.hb) (λ_=>.panicked (sN e)) (λl'=>aY q l' bs' cs)):L2 Tryz.prog 23 (aY q l bs cs) (aL (.pointer (some ⟨l.hb,0,none⟩))) (pT s) (λl':HL=>fC l' bs' cs/\l'.hb=l.hb) (λ_=>.returned (.int .i64 e)) (λl'=>aY q l' bs' cs):=by
 intro M B w0 v0 v1 hM jc hH jB hv0 dc
 have hG:aN (λk o=>M k o\/B k) jz w0:=jB
 have tq:kW (aY q l bs cs):=hH.2.1
 have hsz:s.size<=1000000:=by omega
 have hlen:0<(ak s).length:=by rw[cx]; omega
 have zQ:(!bg s)=false:=by rw[hs1.1]; rfl
 have zR:(!true||!eH ((ak s).length-1) 2 (kY s) qB)=false:=by rw[hs1.2.2.1]; rfl
 have hgt:¬(s.size:Int)>200:=by omega
 refine zb (N:=49) Tryz.func23 rfl rfl rfl hM jc hH hv0 dc λa hI=>?_
 refine cD hI 1 [⟨4,4,some 0,none,.ptr,25,1,false,pv _,[]⟩] [] [] (.k .z) (.kk .z) ⟨CC .i,trivial⟩ (.k (.k .z)) (.kk .z) λa w hI=>?_
 refine ah ?_
 refine aI ?_
 refine cD hI 3 [] [] [Uc 0 9 _,Uc 1 10 _,Uc 2 8 _] (.k (.k .z)) (.kk .z) ⟨mv,rN false,mv,trivial⟩ (.k (.k .z)) (.cg (.k .z)) λa w hI=>?_
 refine nx hI (rfl) ?_
 refine cD hI 4 [] [] [Uc 0 12 _,Uc 1 13 _,Uc 2 14 _,Uc 3 11 _] (.k (.k .z)) (.aP .z) ⟨mv,oz,bn,mv,trivial⟩ (.k (.k .z)) (.cg (.fh .z)) λa w hI=>?_
 refine nx hI (decide_eq_false hgt) ?_
 refine cD hI 4 [] [] [Uc 0 16 _,Uc 1 17 _,Uc 2 18 _,Uc 3 15 _] (.k (.k .z)) (.aP .z) ⟨mv,wq hG (kj (s:=s)) (hφ:=hsz),nt,mv,trivial⟩ (.k (.k .z)) (.cg (.fh .z)) λa w hI=>?_
 refine nx hI (zQ) ?_
 refine av ?_
 refine bF ?_
 refine af ?_
 refine cD hI 3 [] [] [Uc 0 19 _,Uc 1 20 _,Uc 2 5 _] (.k (.k .z)) (.aP .z) ⟨mv,zC hG (iK (s:=s)) (hφ:=hsz),mv,trivial⟩ (.k (.k .z)) (.cg (.dk .z)) λa w hI=>?_
 refine vV hI [0,0,2,6,15,31,63,63,0,383,1023] [⟨6,6,some 8,none,.ptr,117,2,true,pv _,[(9,pv _)]⟩] [] [Uc 0 22 _,Uc 1 23 _,Uc 2 24 _,Uc 3 25 _,Uc 4 26 _,Uc 5 21 _,Uc 6 27 _,Uc 7 28 _,Uc 10 7 _] (.k (.k .z)) (.aP .z) ⟨BN ki (hφ:=trivial),mv,bh 0 hs hs rfl (pt rfl) hlen (by kernel_rfl) (by kernel_rfl),aH hs (pt rfl) (by kernel_rfl) (aT _),Em 9 117 (.agg #[.slice none 0 0,.nilFunc]) hs1.2.1,mv,ext,ext,C3 [.slice none 0 0,.nilFunc] jL,iN rfl rfl hs rfl rfl (cP (by kernel_rfl)) (iC aJ (bf _)) (by kernel_rfl),mv,trivial⟩ (.k (.k (.s .o .z))) (.bq (.bN (.bV .z))) λa w hI=>?_
 have hI:=gZ hI 2 rfl (by kernel_rfl)
 dsimp only[List.eraseIdx]at hI
 refine ah ?_
 refine vV hI [0,1,3,7,15,7,39,127,255,511] [] [] [Uc 0 29 _,Uc 1 30 _,Uc 2 31 _,Uc 3 32 _,Uc 4 33 _,Uc 5 34 _,Uc 6 35 _,Uc 7 36 _,Uc 8 37 _,Uc 9 38 _] (.k (.k .z)) (.ae (.k .z)) ⟨mv,nt,mv,gd λh=>er h,gd λh=>A7 1 (h:=hg) (hp:=pg h rfl),gd λh=>fP 0 1 false (h:=hg) (hp:=pg h rfl),gd λh=>aH hg (pg h rfl) (by kernel_rfl) aJ,gd λh=>pU h (mU (g:=kY s) (φ:=qB)) (c2:=tW) (hφ:=⟨by have:=fq hsz; omega,by omega,λk _=>iW hsz⟩),gd λh=>EX h,pk,trivial⟩ (.k (.k .z)) (.ae (.d8 (.fh .z))) λa w hI=>?_
 refine nx hI (zR) ?_
 refine av ?_
 refine af ?_
 obtain⟨g,hI⟩:=Inv.ri hI 1 rfl rfl rfl
 refine oY hI rfl (by kernel_rfl) (by kernel_rfl) (by kernel_rfl) λa w hI=>?_
 refine ah (GD hI [0,1,0,0,8,31] 5 [] [] [Uc 0 40 _,Uc 1 41 _,Uc 2 42 _,Uc 3 43 _,Uc 4 44 _] (.k (.k .z)) (.ae (.kk .z)) ⟨fP 1 1 false,aH hs (pt rfl) (by kernel_rfl) (bf _),mv,mv,A7 1,trivial⟩ (.k (.k .z)) (.oo (.bV (.kU .z))) rfl rfl (Ep hG eR (hf:=hf)) λch a w hr=>?_)
 obtain⟨rfl,l1,po,hI⟩:=hr
 exact gY (rY (g:=g) l1 po hI rfl 0 rfl (by decide) rfl (cP (by kernel_rfl)) rfl)
end Wx
