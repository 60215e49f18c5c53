import Derived.Test.YtfnmkhlleanppaaGreatDoorJWN45
import Derived.Test.YtfnmkhlleanppaaGreatDoorJWN42
namespace Wx
open Go Go.RowKit Go.Proofs
set_option linter.unusedVariables false
abbrev jG (s:ByteArray) (k:Nat):ByteArray:=(aA s).getD (1+k) ⟨#[]⟩
abbrev C1 (s:ByteArray):Pred:=aK 1 false ((aA s).length-1) λk=>pT (jG s k)
def oJ (k:Nat):ByteArray->Bool:=if k=0 then gH else eD
theorem rH:∀w v,aK 1 false 2 (λk=>[az,dF].getD k aG) w v->aK 1 false 2 (λk=>qy Tryz.prog (lV Tryz.prog (oJ k))) w v:=jy λk hk w v h=>by
 match k,hk,h with
 |0,_,h=>exact h
 |1,_,h=>exact h
theorem xg:∀w v,aK 1 false 1 (λk=>[az].getD k aG) w v->aK 1 false 1 (λk=>qy Tryz.prog (lV Tryz.prog gH)) w v:=jy λk hk w v h=>by
 match k,hk,h with
 |0,_,h=>exact h
theorem yx {a b:Nat} (e:b=a):∀w v,aE (.pointer (some ⟨a,0,none⟩)) w v->aE (.pointer (some ⟨b,0,none⟩)) w v:=by subst e; exactλ_ _ h=>h
theorem gZ {s:ByteArray} {k:Nat} (h:s.size<=1000000):(jG s k).size<=1000000:=by
 unfold jG
 by_cases hk:1+k<(aA s).length
 ·exact Nat.le_trans (jB (jm hk)) h
 ·rw[List.getD_eq_getElem?_getD,List.getElem?_eq_none (by omega)]
  show 0<=1000000
  omega
section
variable {P:Program} {ops:Array Oper} {ms:List Nat} {c:bD} {V:List Vr} {A:List Al} {G:List aD} {i d:Nat} {x y z:Operand} {ty:TypeId} {pos:String} {aj:Array Edge}
theorem AX {T:TypeId} {v:Vr} (cs:List Value) (hn:∀u∈cs,dc u) (hv:tF i V=some v:=by exact rfl) (hT:v.T=T:=by exact rfl) (bH:v.kd=.ptr:=by exact rfl) (hc:v.c0=pv aG:=by exact rfl)
  (hz:∀w,(zeroValue T).run P w=.ok (.agg cs.toArray) w:=by exactλ_=>by kernel_rfl) (hl:cs.length=v.n:=by kernel_rfl) (hst:((v.st.all λq=>(ms.getD q.1 0).testBit i)&&V.all λy=>y.dead != some i)=true:=by kernel_rfl) (hno:(G.all λe=>e.tag != some i)=true:=by kernel_rfl) (hal:(A.all λp=>p.var != v.id||p.tag.any λj=>(ms.getD j 0).testBit i)=true:=by kernel_rfl):
  OpOk P ops ms c V A G i ⟨some d,.alloc T,ty,pos,aj,none⟩:=by
 obtain⟨⟨k,hk⟩,hb⟩:=gY hv
 exact gP k hk hb hst hno hal hT bH hz rfl hl hn hc λw=>trivial
end
theorem mP:dc .nilFunc:=λ_=>⟨(by simp),by simp⟩
theorem iQ:∀u∈[Value.slice none 0 0,.nilFunc],dc u:=λu hu=>by
 rcases List.mem_cons.1 hu with rfl|hu
 ·exact aZ _ _ _
 ·rw[List.mem_singleton.1 hu]; exact mP
variable {p1:Pred}
theorem gD {p2:Pred} (h1:Fits 1 false p1) (h2:Fits 1 false p2):Fits 2 true (cw p1 p2):=kW (fs:=[⟨false,1,p1⟩,⟨false,1,p2⟩]) ⟨h1,h2,trivial⟩ rfl
theorem wC {Λ:Type} {C:Λ->Prop} {E:Λ->Ending} {H:Λ->List Bk} {P:Program} {w:World} {fn:Func} {f:FuncId} {D:Code} {v0 v1:Value} {M:Nat->Nat->Prop} {B:Nat->Prop} {p0:Pred} {N:Nat} {H0:List Bk} (hf:P.funcs[f]?=some fn) (hb:fn.body=some D) (hN:fn.ntmps=N) (hlen:decide ([v0,v1].length<=N)=true) (hM:cQ M w) (ik:∀k,B k->∀o,¬M k o) (hH:bE B w H0)
  (h0:aL (plus M B) (λw=>p0 w v0) w) (h1:aL (plus M B) (λw=>p1 w v1) w) (h:∀a,Inv ⟨N,w,M,B⟩ [aM N N H0] [] [Uz 0 p0,Uz 1 p1] none_ a w->D.ww none [] P (bodyPostD P fn (gm B C E H w)) a w):Calls P f #[v0,v1] w (gm B C E H w):=
 pO (G:=[Uz 0 p0,Uz 1 p1]) hf hb hN hlen hM ik hH (show dz (plus M B) w [v0,v1] [Uz 0 p0,Uz 1 p1]from⟨⟨rfl,_,rfl,h0⟩,⟨rfl,_,rfl,h1⟩,trivial⟩) h
end Wx

namespace Wx
set_option maxRecDepth 100000
set_option maxHeartbeats 1000000
open Go Go.RowKit Go.Proofs
set_option linter.unusedVariables false
attribute [local irreducible] OpOk
variable {q:Nat} {l:HL} {bs bs':List eN} {cs:List ByteArray} {s:ByteArray} {f:FuncId}
theorem Ae (hl:eA l bs cs) (hc:cs.length<=40/\q<=100000/\s.size<=200) (hs1:eC s=true/\cM ((aA s).getD 0 ⟨#[]⟩) comms=some (cw (aK 1 false 2 λk=>[az,dF].getD k aG) (aE (.func (.func f) #[] #[])))/\dN ((aA s).length-1) 2 (jG s) oJ=true/\2<=(aA s).length) (hf:ax Tryz.prog f) (dS:L2 Tryz.prog f (aR q l bs cs) (aE (.pointer (some ⟨l.hb,0,none⟩))) (C1 s) (λl':HL=>eA l' bs' cs/\l'.hb=l.hb) (λ_=>.returned (.tuple #[])) (λl'=>aR q l' bs' cs)):L2 Tryz.prog 23 (aR q l bs cs) (aE (.pointer (some ⟨l.hb,0,none⟩))) (pT s) (λl':HL=>eA l' bs' (cs++[s])/\l'.hb=l.hb) (λ_=>.returned (.int .i64 0)) (λl'=>aR (q+300) l' bs' (cs++[s])):=by
 intro M B w0 v0 v1 hM ik hH iJ hv0 ck
 have hG:aL (λk o=>M k o\/B k) iM w0:=iJ
 have qU:jF (aR q l bs cs):=hH.2.1
 have hsz:s.size<=1000000:=by omega
 have hlen:0<(aA s).length:=by rw[cE]; omega
 have xo:(!eC s)=false:=by rw[hs1.1]; rfl
 have xp:(!true||!dN ((aA s).length-1) 2 (jG s) oJ)=false:=by rw[hs1.2.2.1]; rfl
 have hgt:¬(s.size:Int)>200:=by omega
 refine wC (N:=49) Tryz.func23 rfl rfl rfl hM ik hH hv0 ck λa hI=>?_
 refine da hI 1 [⟨4,4,some 0,none,.ptr,25,1,false,pv _,[]⟩] [] [] (.k .z) (.kk .z) ⟨xY .i,trivial⟩ (.k (.k .z)) (.kk .z) λa w hI=>?_
 refine aq ?_
 refine bp ?_
 refine da hI 3 [] [] [Uc 0 9 _,Uc 1 10 _,Uc 2 8 _] (.k (.k .z)) (.kk .z) ⟨mv,eL false,mv,trivial⟩ (.k (.k .z)) (.bJ (.k .z)) λa w hI=>?_
 refine lO hI (rfl) ?_
 refine da hI 4 [] [] [Uc 0 12 _,Uc 1 13 _,Uc 2 14 _,Uc 3 11 _] (.k (.k .z)) (.aU .z) ⟨mv,xT,bn,mv,trivial⟩ (.k (.k .z)) (.bJ (.gj .z)) λa w hI=>?_
 refine lO hI (decide_eq_false hgt) ?_
 refine da hI 4 [] [] [Uc 0 16 _,Uc 1 17 _,Uc 2 18 _,Uc 3 15 _] (.k (.k .z)) (.aU .z) ⟨mv,AZ hG (mK (s:=s)) (hφ:=hsz),nt,mv,trivial⟩ (.k (.k .z)) (.bJ (.gj .z)) λa w hI=>?_
 refine lO hI (xo) ?_
 refine aN ?_
 refine cJ ?_
 refine au ?_
 refine da hI 3 [] [] [Uc 0 19 _,Uc 1 20 _,Uc 2 5 _] (.k (.k .z)) (.aU .z) ⟨mv,wU hG (gK (s:=s)) (hφ:=hsz),mv,trivial⟩ (.k (.k .z)) (.bJ (.dk .z)) λa w hI=>?_
 refine vq hI [0,0,2,6,15,31,63,63,0,383,1023] [⟨6,6,some 8,none,.ptr,117,2,true,pv _,[(9,pv _)]⟩] [] [Uc 0 22 _,Uc 1 23 _,Uc 2 24 _,Uc 3 25 _,Uc 4 26 _,Uc 5 21 _,Uc 6 27 _,Uc 7 28 _,Uc 10 7 _] (.k (.k .z)) (.aU .z) ⟨zm jh (hφ:=trivial),mv,aV 0 hs hs rfl (pt rfl) hlen (by kernel_rfl) (by kernel_rfl),aI hs (pt rfl) (by kernel_rfl) (bh _),Cj 9 117 (.agg #[.slice none 0 0,.nilFunc]) hs1.2.1,mv,ext,ext,AX [.slice none 0 0,.nilFunc] iQ,gN rfl rfl hs rfl rfl (cn (by kernel_rfl)) (gD aC (aS _)) (by kernel_rfl),mv,trivial⟩ (.k (.k (.s .o .z))) (.bT (.bY (.ct .z))) λa w hI=>?_
 have hI:=gb hI 2 rfl (by kernel_rfl)
 dsimp only[List.eraseIdx]at hI
 refine aq ?_
 refine vq hI [0,1,3,7,15,7,39,127,255,511] [] [] [Uc 0 29 _,Uc 1 30 _,Uc 2 31 _,Uc 3 32 _,Uc 4 33 _,Uc 5 34 _,Uc 6 35 _,Uc 7 36 _,Uc 8 37 _,Uc 9 38 _] (.k (.k .z)) (.af (.k .z)) ⟨mv,nt,mv,gd λh=>fu h,gd λh=>yF 1 (h:=hg) (hp:=pg h rfl),gd λh=>fP 0 1 false (h:=hg) (hp:=pg h rfl),gd λh=>aI hg (pg h rfl) (by kernel_rfl) aC,gd λh=>nR h (lp (g:=jG s) (φ:=oJ)) (c2:=rH) (hφ:=⟨by have:=eu hsz; omega,by omega,λk _=>gZ hsz⟩),gd λh=>CK h,pk,trivial⟩ (.k (.k .z)) (.af (.d8 (.gj .z))) λa w hI=>?_
 refine lO hI (xp) ?_
 refine aN ?_
 refine au ?_
 obtain⟨g,hI⟩:=Inv.pn hI 1 rfl rfl rfl
 refine nC hI rfl (by kernel_rfl) (by kernel_rfl) (by kernel_rfl) λa w hI=>?_
 refine Cz hI [0,1,0,0,8,31] 5 [] [] [Uc 0 40 _,Uc 1 41 _,Uc 2 42 _,Uc 3 43 _,Uc 4 44 _] (.k (.k .z)) (.af (.kk .z)) ⟨fP 1 1 false,aI hs (pt rfl) (by kernel_rfl) (aS _),mv,mv,yF 1,trivial⟩ (.k (.k .z)) (.qi (.ct (.lg .z))) (⟨_,Bw hG dS (hf:=hf),rfl⟩) λa w hI=>?_
 obtain⟨l1,nG,hI⟩:=hI
 refine lM hI 3 2 [] [] [Uc 0 46 _,Uc 1 47 _] (.k (.k .z)) (.af (.aU .z)) ⟨mv,mv,trivial⟩ (.k (.k .z)) (.nO (.ct (.k .z))) (⟨_,wV hG (xR (q:=q) (l:=l1) (bs:=bs') (cs:=cs) (s:=s) nG.1 hc) (c1:=yx nG.2),rfl⟩) λa w hI=>?_
 obtain⟨l2,hl2,hI⟩:=hI
 refine da hI 1 [] [] [] (.k (.u none [(0,pv _)] .z)) (.af .z) ⟨AK,trivial⟩ (.k (.s .o .z)) (.nO .z) λa w hI=>?_
 refine ay ?_
 exact rz (g:=g) l2 ⟨hl2.1,hl2.2.1.trans nG.2⟩ hI rfl Cy rfl
theorem Af (hl:eA l bs cs) (hc:cs.length<=40/\q<=100000/\s.size<=200) (hs1:eC s=true/\cM ((aA s).getD 0 ⟨#[]⟩) comms=some (cw (aK 1 false 2 λk=>[az,dF].getD k aG) (aE (.func (.func f) #[] #[])))/\dN ((aA s).length-1) 2 (jG s) oJ=true/\2<=(aA s).length) (hf:ax Tryz.prog f) {e:Int} (dS:L2 Tryz.prog f (aR q l bs cs) (aE (.pointer (some ⟨l.hb,0,none⟩))) (C1 s) (λl':HL=>eA l' bs' cs/\l'.hb=l.hb) (λ_=>.panicked (qD e)) (λl'=>aR q l' bs' cs)):L2 Tryz.prog 23 (aR q l bs cs) (aE (.pointer (some ⟨l.hb,0,none⟩))) (pT s) (λl':HL=>eA l' bs' cs/\l'.hb=l.hb) (λ_=>.returned (.int .i64 e)) (λl'=>aR q l' bs' cs):=by
 intro M B w0 v0 v1 hM ik hH iJ hv0 ck
 have hG:aL (λk o=>M k o\/B k) iM w0:=iJ
 have qU:jF (aR q l bs cs):=hH.2.1
 have hsz:s.size<=1000000:=by omega
 have hlen:0<(aA s).length:=by rw[cE]; omega
 have xo:(!eC s)=false:=by rw[hs1.1]; rfl
 have xp:(!true||!dN ((aA s).length-1) 2 (jG s) oJ)=false:=by rw[hs1.2.2.1]; rfl
 have hgt:¬(s.size:Int)>200:=by omega
 refine wC (N:=49) Tryz.func23 rfl rfl rfl hM ik hH hv0 ck λa hI=>?_
 refine da hI 1 [⟨4,4,some 0,none,.ptr,25,1,false,pv _,[]⟩] [] [] (.k .z) (.kk .z) ⟨xY .i,trivial⟩ (.k (.k .z)) (.kk .z) λa w hI=>?_
 refine aq ?_
 refine bp ?_
 refine da hI 3 [] [] [Uc 0 9 _,Uc 1 10 _,Uc 2 8 _] (.k (.k .z)) (.kk .z) ⟨mv,eL false,mv,trivial⟩ (.k (.k .z)) (.bJ (.k .z)) λa w hI=>?_
 refine lO hI (rfl) ?_
 refine da hI 4 [] [] [Uc 0 12 _,Uc 1 13 _,Uc 2 14 _,Uc 3 11 _] (.k (.k .z)) (.aU .z) ⟨mv,xT,bn,mv,trivial⟩ (.k (.k .z)) (.bJ (.gj .z)) λa w hI=>?_
 refine lO hI (decide_eq_false hgt) ?_
 refine da hI 4 [] [] [Uc 0 16 _,Uc 1 17 _,Uc 2 18 _,Uc 3 15 _] (.k (.k .z)) (.aU .z) ⟨mv,AZ hG (mK (s:=s)) (hφ:=hsz),nt,mv,trivial⟩ (.k (.k .z)) (.bJ (.gj .z)) λa w hI=>?_
 refine lO hI (xo) ?_
 refine aN ?_
 refine cJ ?_
 refine au ?_
 refine da hI 3 [] [] [Uc 0 19 _,Uc 1 20 _,Uc 2 5 _] (.k (.k .z)) (.aU .z) ⟨mv,wU hG (gK (s:=s)) (hφ:=hsz),mv,trivial⟩ (.k (.k .z)) (.bJ (.dk .z)) λa w hI=>?_
 refine vq hI [0,0,2,6,15,31,63,63,0,383,1023] [⟨6,6,some 8,none,.ptr,117,2,true,pv _,[(9,pv _)]⟩] [] [Uc 0 22 _,Uc 1 23 _,Uc 2 24 _,Uc 3 25 _,Uc 4 26 _,Uc 5 21 _,Uc 6 27 _,Uc 7 28 _,Uc 10 7 _] (.k (.k .z)) (.aU .z) ⟨zm jh (hφ:=trivial),mv,aV 0 hs hs rfl (pt rfl) hlen (by kernel_rfl) (by kernel_rfl),aI hs (pt rfl) (by kernel_rfl) (bh _),Cj 9 117 (.agg #[.slice none 0 0,.nilFunc]) hs1.2.1,mv,ext,ext,AX [.slice none 0 0,.nilFunc] iQ,gN rfl rfl hs rfl rfl (cn (by kernel_rfl)) (gD aC (aS _)) (by kernel_rfl),mv,trivial⟩ (.k (.k (.s .o .z))) (.bT (.bY (.ct .z))) λa w hI=>?_
 have hI:=gb hI 2 rfl (by kernel_rfl)
 dsimp only[List.eraseIdx]at hI
 refine aq ?_
 refine vq hI [0,1,3,7,15,7,39,127,255,511] [] [] [Uc 0 29 _,Uc 1 30 _,Uc 2 31 _,Uc 3 32 _,Uc 4 33 _,Uc 5 34 _,Uc 6 35 _,Uc 7 36 _,Uc 8 37 _,Uc 9 38 _] (.k (.k .z)) (.af (.k .z)) ⟨mv,nt,mv,gd λh=>fu h,gd λh=>yF 1 (h:=hg) (hp:=pg h rfl),gd λh=>fP 0 1 false (h:=hg) (hp:=pg h rfl),gd λh=>aI hg (pg h rfl) (by kernel_rfl) aC,gd λh=>nR h (lp (g:=jG s) (φ:=oJ)) (c2:=rH) (hφ:=⟨by have:=eu hsz; omega,by omega,λk _=>gZ hsz⟩),gd λh=>CK h,pk,trivial⟩ (.k (.k .z)) (.af (.d8 (.gj .z))) λa w hI=>?_
 refine lO hI (xp) ?_
 refine aN ?_
 refine au ?_
 obtain⟨g,hI⟩:=Inv.pn hI 1 rfl rfl rfl
 refine nC hI rfl (by kernel_rfl) (by kernel_rfl) (by kernel_rfl) λa w hI=>?_
 refine aq (Er hI [0,1,0,0,8,31] 5 [] [] [Uc 0 40 _,Uc 1 41 _,Uc 2 42 _,Uc 3 43 _,Uc 4 44 _] (.k (.k .z)) (.af (.kk .z)) ⟨fP 1 1 false,aI hs (pt rfl) (by kernel_rfl) (aS _),mv,mv,yF 1,trivial⟩ (.k (.k .z)) (.qi (.ct (.lg .z))) rfl rfl (Cp hG dS (hf:=hf)) λch a w hr=>?_)
 obtain⟨rfl,l1,nG,hI⟩:=hr
 exact fZ (pZ (g:=g) l1 nG hI rfl 0 rfl (by decide) rfl (cn (by kernel_rfl)) rfl)
end Wx
