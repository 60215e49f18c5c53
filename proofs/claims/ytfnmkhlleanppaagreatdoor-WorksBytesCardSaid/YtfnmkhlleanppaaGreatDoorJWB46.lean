import Derived.Test.YtfnmkhlleanppaaGreatDoorJWB45
import Derived.Test.YtfnmkhlleanppaaGreatDoorJWB43
namespace Wx
open Go Go.RowKit Go.Proofs
set_option linter.unusedVariables false
abbrev lp (s:ByteArray) (k:Nat):ByteArray:=(aD s).getD (1+k) ⟨#[]⟩
abbrev Fg (s:ByteArray):Pred:=ax 1 false ((aD s).length-1) λk=>pT (lp s k)
def qH (k:Nat):ByteArray->Bool:=if k=0 then iI else fK
theorem uh:∀w v,ax 1 false 2 (λk=>[aC,eK].getD k az) w v->ax 1 false 2 (λk=>sW Tryz.prog (nN Tryz.prog (qH k))) w v:=ej λk hk w v h=>by
 match k,hk,h with
 |0,_,h=>exact h
 |1,_,h=>exact h
theorem zN:∀w v,ax 1 false 1 (λk=>[aC].getD k az) w v->ax 1 false 1 (λk=>sW Tryz.prog (nN Tryz.prog iI)) w v:=ej λk hk w v h=>by
 match k,hk,h with
 |0,_,h=>exact h
theorem AY {a b:Nat} (e:b=a):∀w v,aJ (.pointer (some ⟨a,0,none⟩)) w v->aJ (.pointer (some ⟨b,0,none⟩)) w v:=by subst e; exactλ_ _ h=>h
theorem iX {s:ByteArray} {k:Nat} (h:s.size<=1000000):(lp s k).size<=1000000:=by
 unfold lp
 by_cases hk:1+k<(aD s).length
 ·exact Nat.le_trans (hU (kC hk)) h
 ·rw[List.getD_eq_getElem?_getD,List.getElem?_eq_none (by omega)]
  show 0<=1000000
  omega
section
variable {P:Program} {ops:Array Oper} {ms:List Nat} {c:bJ} {V:List Vr} {A:List Al} {G:List aI} {i d:Nat} {x y z:Operand} {ty:TypeId} {pos:String} {au:Array Edge}
theorem C8 {T:TypeId} {v:Vr} (cs:List Value) (hn:∀u∈cs,dG u) (hv:pL i V=some v:=by exact rfl) (hT:v.T=T:=by exact rfl) (bT:v.kd=.ptr:=by exact rfl) (hc:v.c0=pv az:=by exact rfl)
  (hz:∀w,(zeroValue T).run P w=.ok (.agg cs.toArray) w:=by exactλ_=>by kernel_rfl) (hl:cs.length=v.n:=by kernel_rfl) (hst:((v.st.all λq=>(ms.getD q.1 0).testBit i)&&V.all λy=>y.dead != some i)=true:=by kernel_rfl) (hno:(G.all λe=>e.tag != some i)=true:=by kernel_rfl) (hal:(A.all λp=>p.var != v.id||p.tag.any λj=>(ms.getD j 0).testBit i)=true:=by kernel_rfl):
  OpOk P ops ms c V A G i ⟨some d,.alloc T,ty,pos,au,none⟩:=by
 obtain⟨⟨k,hk⟩,hb⟩:=dF hv
 exact kI k hk hb hst hno hal hT bT hz rfl hl hn hc λw=>trivial
end
theorem oM:dG .nilFunc:=λ_=>⟨(by simp),by simp⟩
theorem jP:∀u∈[Value.slice none 0 0,.nilFunc],dG u:=λu hu=>by
 rcases List.mem_cons.1 hu with rfl|hu
 ·exact bq _ _ _
 ·rw[List.mem_singleton.1 hu]; exact oM
variable {p1:Pred}
theorem iD {p2:Pred} (h1:Fits 1 false p1) (h2:Fits 1 false p2):Fits 2 true (cP p1 p2):=mU (fs:=[⟨false,1,p1⟩,⟨false,1,p2⟩]) ⟨h1,h2,trivial⟩ rfl
theorem zf {Λ:Type} {C:Λ->Prop} {E:Λ->Ending} {H:Λ->List Bk} {P:Program} {w:World} {fn:Func} {f:FuncId} {D:Code} {v0 v1:Value} {M:Nat->Nat->Prop} {B:Nat->Prop} {p0:Pred} {N:Nat} {H0:List Bk} (hf:P.funcs[f]?=some fn) (hb:fn.body=some D) (hN:fn.ntmps=N) (hlen:decide ([v0,v1].length<=N)=true) (hM:dm M w) (jg:∀k,B k->∀o,¬M k o) (hH:bN B w H0)
  (h0:aK (plus M B) (λw=>p0 w v0) w) (h1:aK (plus M B) (λw=>p1 w v1) w) (h:∀a,Inv ⟨N,w,M,B⟩ [aP N N H0] [] [Uz 0 p0,Uz 1 p1] none_ a w->D.ww none [] P (bodyPostD P fn (ik B C E H w)) a w):Calls P f #[v0,v1] w (ik B C E H w):=
 rX (G:=[Uz 0 p0,Uz 1 p1]) hf hb hN hlen hM jg hH (show eu (plus M B) w [v0,v1] [Uz 0 p0,Uz 1 p1]from⟨⟨rfl,_,rfl,h0⟩,⟨rfl,_,rfl,h1⟩,trivial⟩) h
end Wx

namespace Wx
set_option maxRecDepth 100000
set_option maxHeartbeats 1000000
open Go Go.RowKit Go.Proofs
set_option linter.unusedVariables false
attribute [local irreducible] OpOk
variable {q:Nat} {l:HL} {bs bs':List fZ} {cs:List ByteArray} {s:ByteArray} {f:FuncId}
theorem CA (hl:fG l bs cs) (hc:cs.length<=40/\q<=100000/\s.size<=200) (hs1:cJ s=true/\dy ((aD s).getD 0 ⟨#[]⟩) comms=some (cP (ax 1 false 2 λk=>[aC,eK].getD k az) (aJ (.func (.func f) #[] #[])))/\eR ((aD s).length-1) 2 (lp s) qH=true/\2<=(aD s).length) (hf:aA Tryz.prog f) (eZ:L2 Tryz.prog f (aV q l bs cs) (aJ (.pointer (some ⟨l.hb,0,none⟩))) (Fg s) (λl':HL=>fG l' bs' cs/\l'.hb=l.hb) (λ_=>.returned (.tuple #[])) (λl'=>aV q l' bs' cs)):L2 Tryz.prog 23 (aV q l bs cs) (aJ (.pointer (some ⟨l.hb,0,none⟩))) (pT s) (λl':HL=>fG l' bs' (cs++[s])/\l'.hb=l.hb) (λ_=>.returned (.int .i64 0)) (λl'=>aV (q+300) l' bs' (cs++[s])):=by
 intro M B w0 v0 v1 hM jg hH jI hv0 dH
 have hG:aK (λk o=>M k o\/B k) jG w0:=jI
 have tI:lg (aV q l bs cs):=hH.2.1
 have hsz:s.size<=1000000:=by omega
 have hlen:0<(aD s).length:=by rw[cG]; omega
 have zT:(!cJ s)=false:=by rw[hs1.1]; rfl
 have zU:(!true||!eR ((aD s).length-1) 2 (lp s) qH)=false:=by rw[hs1.2.2.1]; rfl
 have hgt:¬(s.size:Int)>200:=by omega
 refine zf (N:=49) Tryz.func23 rfl rfl rfl hM jg hH hv0 dH λa hI=>?_
 refine cQ hI 1 [⟨4,4,some 0,none,.ptr,25,1,false,pv _,[]⟩] [] [] (.k .z) (.kk .z) ⟨CH .i,trivial⟩ (.k (.k .z)) (.kk .z) λa w hI=>?_
 refine ai ?_
 refine aN ?_
 refine cQ hI 3 [] [] [Uc 0 9 _,Uc 1 10 _,Uc 2 8 _] (.k (.k .z)) (.kk .z) ⟨mv,rW false,mv,trivial⟩ (.k (.k .z)) (.cj (.k .z)) λa w hI=>?_
 refine mB hI (rfl) ?_
 refine cQ hI 4 [] [] [Uc 0 12 _,Uc 1 13 _,Uc 2 14 _,Uc 3 11 _] (.k (.k .z)) (.aR .z) ⟨mv,sN,bn,mv,trivial⟩ (.k (.k .z)) (.cj (.fJ .z)) λa w hI=>?_
 refine mB hI (decide_eq_false hgt) ?_
 refine cQ hI 4 [] [] [Uc 0 16 _,Uc 1 17 _,Uc 2 18 _,Uc 3 15 _] (.k (.k .z)) (.aR .z) ⟨mv,wv hG (ku (s:=s)) (hφ:=hsz),nt,mv,trivial⟩ (.k (.k .z)) (.cj (.fJ .z)) λa w hI=>?_
 refine mB hI (zT) ?_
 refine av ?_
 refine bG ?_
 refine af ?_
 refine cQ hI 3 [] [] [Uc 0 19 _,Uc 1 20 _,Uc 2 5 _] (.k (.k .z)) (.aR .z) ⟨mv,zE hG (iL (s:=s)) (hφ:=hsz),mv,trivial⟩ (.k (.k .z)) (.cj (.dk .z)) λa w hI=>?_
 refine yb hI [0,0,2,6,15,31,63,63,0,383,1023] [⟨6,6,some 8,none,.ptr,117,2,true,pv _,[(9,pv _)]⟩] [] [Uc 0 22 _,Uc 1 23 _,Uc 2 24 _,Uc 3 25 _,Uc 4 26 _,Uc 5 21 _,Uc 6 27 _,Uc 7 28 _,Uc 10 7 _] (.k (.k .z)) (.aR .z) ⟨BR kr (hφ:=trivial),mv,aZ 0 hs hs rfl (pt rfl) hlen (by kernel_rfl) (by kernel_rfl),aE hs (pt rfl) (by kernel_rfl) (aW _),Ep 9 117 (.agg #[.slice none 0 0,.nilFunc]) hs1.2.1,mv,ext,ext,C8 [.slice none 0 0,.nilFunc] jP,iO rfl rfl hs rfl rfl (cH (by kernel_rfl)) (iD aH (aY _)) (by kernel_rfl),mv,trivial⟩ (.k (.k (.s .o .z))) (.bC (.bR (.cx .z))) λa w hI=>?_
 have hI:=ic hI 2 rfl (by kernel_rfl)
 dsimp only[List.eraseIdx]at hI
 refine ai ?_
 refine yb hI [0,1,3,7,15,7,39,127,255,511] [] [] [Uc 0 29 _,Uc 1 30 _,Uc 2 31 _,Uc 3 32 _,Uc 4 33 _,Uc 5 34 _,Uc 6 35 _,Uc 7 36 _,Uc 8 37 _,Uc 9 38 _] (.k (.k .z)) (.ae (.k .z)) ⟨mv,nt,mv,gd λh=>gr h,gd λh=>A9 1 (h:=hg) (hp:=pg h rfl),gd λh=>fP 0 1 false (h:=hg) (hp:=pg h rfl),gd λh=>aE hg (pg h rfl) (by kernel_rfl) aH,gd λh=>sC h (nj (g:=lp s) (φ:=qH)) (c2:=uh) (hφ:=⟨by have:=fC hsz; omega,by omega,λk _=>iX hsz⟩),gd λh=>DV h,pk,trivial⟩ (.k (.k .z)) (.ae (.d8 (.fJ .z))) λa w hI=>?_
 refine mB hI (zU) ?_
 refine av ?_
 refine af ?_
 obtain⟨g,hI⟩:=Inv.rD hI 1 rfl rfl rfl
 refine pE hI rfl (by kernel_rfl) (by kernel_rfl) (by kernel_rfl) λa w hI=>?_
 refine EG hI [0,1,0,0,8,31] 5 [] [] [Uc 0 40 _,Uc 1 41 _,Uc 2 42 _,Uc 3 43 _,Uc 4 44 _] (.k (.k .z)) (.ae (.kk .z)) ⟨fP 1 1 false,aE hs (pt rfl) (by kernel_rfl) (aY _),mv,mv,A9 1,trivial⟩ (.k (.k .z)) (.oB (.cx (.lf .z))) (⟨_,DF hG eZ (hf:=hf),rfl⟩) λa w hI=>?_
 obtain⟨l1,pJ,hI⟩:=hI
 refine lM hI 3 2 [] [] [Uc 0 46 _,Uc 1 47 _] (.k (.k .z)) (.ae (.aR .z)) ⟨mv,mv,trivial⟩ (.k (.k .z)) (.qb (.cx (.k .z))) (⟨_,zF hG (Aw (q:=q) (l:=l1) (bs:=bs') (cs:=cs) (s:=s) pJ.1 hc) (c1:=AY pJ.2),rfl⟩) λa w hI=>?_
 obtain⟨l2,hl2,hI⟩:=hI
 refine cQ hI 1 [] [] [] (.k (.u none [(0,pv _)] .z)) (.ae .z) ⟨GJ,trivial⟩ (.k (.s .o .z)) (.qb .z) λa w hI=>?_
 refine ay ?_
 exact tY (g:=g) l2 ⟨hl2.1,hl2.2.1.trans pJ.2⟩ hI rfl GR rfl
theorem CB (hl:fG l bs cs) (hc:cs.length<=40/\q<=100000/\s.size<=200) (hs1:cJ s=true/\dy ((aD s).getD 0 ⟨#[]⟩) comms=some (cP (ax 1 false 2 λk=>[aC,eK].getD k az) (aJ (.func (.func f) #[] #[])))/\eR ((aD s).length-1) 2 (lp s) qH=true/\2<=(aD s).length) (hf:aA Tryz.prog f) {e:Int} (eZ:L2 Tryz.prog f (aV q l bs cs) (aJ (.pointer (some ⟨l.hb,0,none⟩))) (Fg s) (λl':HL=>fG l' bs' cs/\l'.hb=l.hb) (λ_=>.panicked (td e)) (λl'=>aV q l' bs' cs)):L2 Tryz.prog 23 (aV q l bs cs) (aJ (.pointer (some ⟨l.hb,0,none⟩))) (pT s) (λl':HL=>fG l' bs' cs/\l'.hb=l.hb) (λ_=>.returned (.int .i64 e)) (λl'=>aV q l' bs' cs):=by
 intro M B w0 v0 v1 hM jg hH jI hv0 dH
 have hG:aK (λk o=>M k o\/B k) jG w0:=jI
 have tI:lg (aV q l bs cs):=hH.2.1
 have hsz:s.size<=1000000:=by omega
 have hlen:0<(aD s).length:=by rw[cG]; omega
 have zT:(!cJ s)=false:=by rw[hs1.1]; rfl
 have zU:(!true||!eR ((aD s).length-1) 2 (lp s) qH)=false:=by rw[hs1.2.2.1]; rfl
 have hgt:¬(s.size:Int)>200:=by omega
 refine zf (N:=49) Tryz.func23 rfl rfl rfl hM jg hH hv0 dH λa hI=>?_
 refine cQ hI 1 [⟨4,4,some 0,none,.ptr,25,1,false,pv _,[]⟩] [] [] (.k .z) (.kk .z) ⟨CH .i,trivial⟩ (.k (.k .z)) (.kk .z) λa w hI=>?_
 refine ai ?_
 refine aN ?_
 refine cQ hI 3 [] [] [Uc 0 9 _,Uc 1 10 _,Uc 2 8 _] (.k (.k .z)) (.kk .z) ⟨mv,rW false,mv,trivial⟩ (.k (.k .z)) (.cj (.k .z)) λa w hI=>?_
 refine mB hI (rfl) ?_
 refine cQ hI 4 [] [] [Uc 0 12 _,Uc 1 13 _,Uc 2 14 _,Uc 3 11 _] (.k (.k .z)) (.aR .z) ⟨mv,sN,bn,mv,trivial⟩ (.k (.k .z)) (.cj (.fJ .z)) λa w hI=>?_
 refine mB hI (decide_eq_false hgt) ?_
 refine cQ hI 4 [] [] [Uc 0 16 _,Uc 1 17 _,Uc 2 18 _,Uc 3 15 _] (.k (.k .z)) (.aR .z) ⟨mv,wv hG (ku (s:=s)) (hφ:=hsz),nt,mv,trivial⟩ (.k (.k .z)) (.cj (.fJ .z)) λa w hI=>?_
 refine mB hI (zT) ?_
 refine av ?_
 refine bG ?_
 refine af ?_
 refine cQ hI 3 [] [] [Uc 0 19 _,Uc 1 20 _,Uc 2 5 _] (.k (.k .z)) (.aR .z) ⟨mv,zE hG (iL (s:=s)) (hφ:=hsz),mv,trivial⟩ (.k (.k .z)) (.cj (.dk .z)) λa w hI=>?_
 refine yb hI [0,0,2,6,15,31,63,63,0,383,1023] [⟨6,6,some 8,none,.ptr,117,2,true,pv _,[(9,pv _)]⟩] [] [Uc 0 22 _,Uc 1 23 _,Uc 2 24 _,Uc 3 25 _,Uc 4 26 _,Uc 5 21 _,Uc 6 27 _,Uc 7 28 _,Uc 10 7 _] (.k (.k .z)) (.aR .z) ⟨BR kr (hφ:=trivial),mv,aZ 0 hs hs rfl (pt rfl) hlen (by kernel_rfl) (by kernel_rfl),aE hs (pt rfl) (by kernel_rfl) (aW _),Ep 9 117 (.agg #[.slice none 0 0,.nilFunc]) hs1.2.1,mv,ext,ext,C8 [.slice none 0 0,.nilFunc] jP,iO rfl rfl hs rfl rfl (cH (by kernel_rfl)) (iD aH (aY _)) (by kernel_rfl),mv,trivial⟩ (.k (.k (.s .o .z))) (.bC (.bR (.cx .z))) λa w hI=>?_
 have hI:=ic hI 2 rfl (by kernel_rfl)
 dsimp only[List.eraseIdx]at hI
 refine ai ?_
 refine yb hI [0,1,3,7,15,7,39,127,255,511] [] [] [Uc 0 29 _,Uc 1 30 _,Uc 2 31 _,Uc 3 32 _,Uc 4 33 _,Uc 5 34 _,Uc 6 35 _,Uc 7 36 _,Uc 8 37 _,Uc 9 38 _] (.k (.k .z)) (.ae (.k .z)) ⟨mv,nt,mv,gd λh=>gr h,gd λh=>A9 1 (h:=hg) (hp:=pg h rfl),gd λh=>fP 0 1 false (h:=hg) (hp:=pg h rfl),gd λh=>aE hg (pg h rfl) (by kernel_rfl) aH,gd λh=>sC h (nj (g:=lp s) (φ:=qH)) (c2:=uh) (hφ:=⟨by have:=fC hsz; omega,by omega,λk _=>iX hsz⟩),gd λh=>DV h,pk,trivial⟩ (.k (.k .z)) (.ae (.d8 (.fJ .z))) λa w hI=>?_
 refine mB hI (zU) ?_
 refine av ?_
 refine af ?_
 obtain⟨g,hI⟩:=Inv.rD hI 1 rfl rfl rfl
 refine pE hI rfl (by kernel_rfl) (by kernel_rfl) (by kernel_rfl) λa w hI=>?_
 refine ai (GU hI [0,1,0,0,8,31] 5 [] [] [Uc 0 40 _,Uc 1 41 _,Uc 2 42 _,Uc 3 43 _,Uc 4 44 _] (.k (.k .z)) (.ae (.kk .z)) ⟨fP 1 1 false,aE hs (pt rfl) (by kernel_rfl) (aY _),mv,mv,A9 1,trivial⟩ (.k (.k .z)) (.oB (.cx (.lf .z))) rfl rfl (Eu hG eZ (hf:=hf)) λch a w hr=>?_)
 obtain⟨rfl,l1,pJ,hI⟩:=hr
 exact ia (sw (g:=g) l1 pJ hI rfl 0 rfl (by decide) rfl (cH (by kernel_rfl)) rfl)
end Wx
