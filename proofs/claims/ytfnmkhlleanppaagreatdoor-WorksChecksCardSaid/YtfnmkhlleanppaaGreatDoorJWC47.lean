import Derived.Test.YtfnmkhlleanppaaGreatDoorJWC46
namespace Wx
open Go Go.RowKit Go.Proofs
set_option linter.unusedVariables false
abbrev nD (s:ByteArray) (k:Nat):ByteArray:=(ay s).getD (1+k) ⟨#[]⟩
abbrev Lu (s:ByteArray):Pred:=aI 1 false ((ay s).length-1) λk=>pT (nD s k)
def tZ (k:Nat):ByteArray->Bool:=if k=0 then cC else bJ
theorem xO:∀w v,aI 1 false 2 (λk=>[aM,fK].getD k aT) w v->aI 1 false 2 (λk=>wA Tryz.prog (qE Tryz.prog (tZ k))) w v:=iN λk hk w v h=>by
 match k,hk,h with
 |0,_,h=>exact h
 |1,_,h=>exact h
theorem D3:∀w v,aI 1 false 1 (λk=>[aM].getD k aT) w v->aI 1 false 1 (λk=>wA Tryz.prog (qE Tryz.prog cC)) w v:=iN λk hk w v h=>by
 match k,hk,h with
 |0,_,h=>exact h
theorem Fu {a b:Nat} (e:b=a):∀w v,aG (.pointer (some ⟨a,0,none⟩)) w v->aG (.pointer (some ⟨b,0,none⟩)) w v:=by subst e; exactλ_ _ h=>h
theorem kD {s:ByteArray} {k:Nat} (h:s.size<=1000000):(nD s k).size<=1000000:=by
 unfold nD
 by_cases hk:1+k<(ay s).length
 ·exact Nat.le_trans (gX (iH hk)) h
 ·rw[List.getD_eq_getElem?_getD,List.getElem?_eq_none (by omega)]
  show 0<=1000000
  omega
section
variable {P:Program} {ops:Array Oper} {ms:List Nat} {c:bQ} {V:List Vr} {A:List Al} {G:List aN} {i d:Nat} {x y z:Operand} {ty:TypeId} {pos:String} {aft:Array Edge}
theorem IA {T:TypeId} {v:Vr} (cs:List Value) (hn:∀u∈cs,dB u) (hv:sN i V=some v:=by exact rfl) (hT:v.T=T:=by exact rfl) (bR:v.kd=.ptr:=by exact rfl) (hc:v.c0=pv aT:=by exact rfl)
  (hz:∀w,(zeroValue T).run P w=.ok (.agg cs.toArray) w:=by exactλ_=>by kernel_rfl) (hl:cs.length=v.n:=by kernel_rfl) (hst:((v.st.all λq=>(ms.getD q.1 0).testBit i)&&V.all λy=>y.dead != some i)=true:=by kernel_rfl) (hno:(G.all λe=>e.tag != some i)=true:=by kernel_rfl) (hal:(A.all λp=>p.var != v.id||p.tag.any λj=>(ms.getD j 0).testBit i)=true:=by kernel_rfl):
  OpOk P ops ms c V A G i ⟨some d,.alloc T,ty,pos,aft,none⟩:=by
 obtain⟨⟨k,hk⟩,hb⟩:=eP hv
 exact iL k hk hb hst hno hal hT bR hz rfl hl hn hc λw=>trivial
end
theorem rR:dB .nilFunc:=λ_=>⟨(by simp),by simp⟩
theorem lU:∀u∈[Value.slice none 0 0,.nilFunc],dB u:=λu hu=>by
 rcases List.mem_cons.1 hu with rfl|hu
 ·exact bu _ _ _
 ·rw[List.mem_singleton.1 hu]; exact rR
variable {p1:Pred}
theorem jL {p2:Pred} (h1:Fits 1 false p1) (h2:Fits 1 false p2):Fits 2 true (dJ p1 p2):=mB (fs:=[⟨false,1,p1⟩,⟨false,1,p2⟩]) ⟨h1,h2,trivial⟩ rfl
theorem Dw {Λ:Type} {C:Λ->Prop} {E:Λ->Ending} {H:Λ->List Bk} {P:Program} {w:World} {fn:Func} {f:FuncId} {D:Code} {v0 v1:Value} {M:Nat->Nat->Prop} {B:Nat->Prop} {p0:Pred} {N:Nat} {H0:List Bk} (hf:P.funcs[f]?=some fn) (hb:fn.body=some D) (hN:fn.ntmps=N) (hlen:decide ([v0,v1].length<=N)=true) (hM:cS M w) (jx:∀k,B k->∀o,¬M k o) (hH:cn B w H0)
  (h0:aJ (plus M B) (λw=>p0 w v0) w) (h1:aJ (plus M B) (λw=>p1 w v1) w) (h:∀a,Inv ⟨N,w,M,B⟩ [aZ N N H0] [] [Uz 0 p0,Uz 1 p1] none_ a w->D.ww none [] P (bodyPostD P fn (jz B C E H w)) a w):Calls P f #[v0,v1] w (jz B C E H w):=
 vr (G:=[Uz 0 p0,Uz 1 p1]) hf hb hN hlen hM jx hH (show eR (plus M B) w [v0,v1] [Uz 0 p0,Uz 1 p1]from⟨⟨rfl,_,rfl,h0⟩,⟨rfl,_,rfl,h1⟩,trivial⟩) h
end Wx

namespace Wx
set_option maxRecDepth 100000
set_option maxHeartbeats 1000000
open Go Go.RowKit Go.Proofs
set_option linter.unusedVariables false
attribute [local irreducible] OpOk
variable {q:Nat} {l:HL} {bs bs':List ig} {cs:List ByteArray} {s:ByteArray} {f:FuncId}
theorem HA (hl:gN l bs cs) (hc:cs.length<=40/\q<=100000/\s.size<=200) (hs1:bt s=true/\dY ((ay s).getD 0 ⟨#[]⟩) comms=some (dJ (aI 1 false 2 λk=>[aM,fK].getD k aT) (aG (.func (.func f) #[] #[])))/\fW ((ay s).length-1) 2 (nD s) tZ=true/\2<=(ay s).length) (hf:aK Tryz.prog f) (gj:L2 Tryz.prog f (bq q l bs cs) (aG (.pointer (some ⟨l.hb,0,none⟩))) (Lu s) (λl':HL=>gN l' bs' cs/\l'.hb=l.hb) (λ_=>.returned (.tuple #[])) (λl'=>bq q l' bs' cs)):L2 Tryz.prog 23 (bq q l bs cs) (aG (.pointer (some ⟨l.hb,0,none⟩))) (pT s) (λl':HL=>gN l' bs' (cs++[s])/\l'.hb=l.hb) (λ_=>.returned (.int .i64 0)) (λl'=>bq (q+300) l' bs' (cs++[s])):=by
 intro M B w0 v0 v1 hM jx hH kK hv0 da
 have hG:aJ (λk o=>M k o\/B k) jd w0:=kK
 have wZ:nB (bq q l bs cs):=hH.2.1
 have hsz:s.size<=1000000:=by omega
 have hlen:0<(ay s).length:=by rw[dw]; omega
 have Ec:(!bt s)=false:=by rw[hs1.1]; rfl
 have Ed:(!true||!fW ((ay s).length-1) 2 (nD s) tZ)=false:=by rw[hs1.2.2.1]; rfl
 have hgt:¬(s.size:Int)>200:=by omega
 refine Dw (N:=49) Tryz.func23 rfl rfl rfl hM jx hH hv0 da λa hI=>?_
 refine bO hI 1 [⟨4,4,some 0,none,.ptr,25,1,false,pv _,[]⟩] [] [] (.k .z) (.kk .z) ⟨HM .i,trivial⟩ (.k (.k .z)) (.kk .z) λa w hI=>?_
 refine ah ?_
 refine aD ?_
 refine bO hI 3 [] [] [Uc 0 9 _,Uc 1 10 _,Uc 2 8 _] (.k (.k .z)) (.kk .z) ⟨mv,vp false,mv,trivial⟩ (.k (.k .z)) (.bK (.k .z)) λa w hI=>?_
 refine mb hI (rfl) ?_
 refine bO hI 4 [] [] [Uc 0 12 _,Uc 1 13 _,Uc 2 14 _,Uc 3 11 _] (.k (.k .z)) (.aU .z) ⟨mv,gF,bn,mv,trivial⟩ (.k (.k .z)) (.bK (.eC .z)) λa w hI=>?_
 refine mb hI (decide_eq_false hgt) ?_
 refine bO hI 4 [] [] [Uc 0 16 _,Uc 1 17 _,Uc 2 18 _,Uc 3 15 _] (.k (.k .z)) (.aU .z) ⟨mv,Ai hG (mL (s:=s)) (hφ:=hsz),nt,mv,trivial⟩ (.k (.k .z)) (.bK (.eC .z)) λa w hI=>?_
 refine mb hI (Ec) ?_
 refine ak ?_
 refine bk ?_
 refine ae ?_
 refine bO hI 3 [] [] [Uc 0 19 _,Uc 1 20 _,Uc 2 5 _] (.k (.k .z)) (.aU .z) ⟨mv,wU hG (iT (s:=s)) (hφ:=hsz),mv,trivial⟩ (.k (.k .z)) (.bK (.dk .z)) λa w hI=>?_
 refine xd hI [0,0,2,6,15,31,63,63,0,383,1023] [⟨6,6,some 8,none,.ptr,117,2,true,pv _,[(9,pv _)]⟩] [] [Uc 0 22 _,Uc 1 23 _,Uc 2 24 _,Uc 3 25 _,Uc 4 26 _,Uc 5 21 _,Uc 6 27 _,Uc 7 28 _,Uc 10 7 _] (.k (.k .z)) (.aU .z) ⟨Gp mK (hφ:=trivial),mv,az 0 hs hs rfl (pt rfl) hlen (by kernel_rfl) (by kernel_rfl),ax hs (pt rfl) (by kernel_rfl) (aE _),Kj 9 117 (.agg #[.slice none 0 0,.nilFunc]) hs1.2.1,mv,ext,ext,IA [.slice none 0 0,.nilFunc] lU,fj rfl rfl hs rfl rfl (bV (by kernel_rfl)) (jL aP (br _)) (by kernel_rfl),mv,trivial⟩ (.k (.k (.s .o .z))) (.bj (.bp (.cf .z))) λa w hI=>?_
 have hI:=gY hI 2 rfl (by kernel_rfl)
 dsimp only[List.eraseIdx]at hI
 refine ah ?_
 refine xd hI [0,1,3,7,15,7,39,127,255,511] [] [] [Uc 0 29 _,Uc 1 30 _,Uc 2 31 _,Uc 3 32 _,Uc 4 33 _,Uc 5 34 _,Uc 6 35 _,Uc 7 36 _,Uc 8 37 _,Uc 9 38 _] (.k (.k .z)) (.af (.k .z)) ⟨mv,nt,mv,gd λh=>cy h,gd λh=>FI 1 (h:=hg) (hp:=pg h rfl),gd λh=>fP 0 1 false (h:=hg) (hp:=pg h rfl),gd λh=>ax hg (pg h rfl) (by kernel_rfl) aP,gd λh=>ri h (pW (g:=nD s) (φ:=tZ)) (c2:=xO) (hφ:=⟨by have:=gK hsz; omega,by omega,λk _=>kD hsz⟩),gd λh=>CN h,pk,trivial⟩ (.k (.k .z)) (.af (.d8 (.eC .z))) λa w hI=>?_
 refine mb hI (Ed) ?_
 refine ak ?_
 refine ae ?_
 obtain⟨g,hI⟩:=Inv.qn hI 1 rfl rfl rfl
 refine sI hI rfl (by kernel_rfl) (by kernel_rfl) (by kernel_rfl) λa w hI=>?_
 refine KL hI [0,1,0,0,8,31] 5 [] [] [Uc 0 40 _,Uc 1 41 _,Uc 2 42 _,Uc 3 43 _,Uc 4 44 _] (.k (.k .z)) (.af (.kk .z)) ⟨fP 1 1 false,ax hs (pt rfl) (by kernel_rfl) (br _),mv,mv,FI 1,trivial⟩ (.k (.k .z)) (.mI (.cf (.nP .z))) (⟨_,Jh hG gj (hf:=hf),rfl⟩) λa w hI=>?_
 obtain⟨l1,ov,hI⟩:=hI
 refine ju hI 3 2 [] [] [Uc 0 46 _,Uc 1 47 _] (.k (.k .z)) (.af (.aU .z)) ⟨mv,mv,trivial⟩ (.k (.k .z)) (.lG (.cf (.k .z))) (⟨_,DR hG (EL (q:=q) (l:=l1) (bs:=bs') (cs:=cs) (s:=s) ov.1 hc) (c1:=Fu ov.2),rfl⟩) λa w hI=>?_
 obtain⟨l2,hl2,hI⟩:=hI
 refine bO hI 1 [] [] [] (.k (.u none [(0,pv _)] .z)) (.af .z) ⟨tW,trivial⟩ (.k (.s .o .z)) (.lG .z) λa w hI=>?_
 refine av ?_
 exact xD (g:=g) l2 ⟨hl2.1,hl2.2.1.trans ov.2⟩ hI rfl vh rfl
theorem HB (hl:gN l bs cs) (hc:cs.length<=40/\q<=100000/\s.size<=200) (hs1:bt s=true/\dY ((ay s).getD 0 ⟨#[]⟩) comms=some (dJ (aI 1 false 2 λk=>[aM,fK].getD k aT) (aG (.func (.func f) #[] #[])))/\fW ((ay s).length-1) 2 (nD s) tZ=true/\2<=(ay s).length) (hf:aK Tryz.prog f) {e:Int} (gj:L2 Tryz.prog f (bq q l bs cs) (aG (.pointer (some ⟨l.hb,0,none⟩))) (Lu s) (λl':HL=>gN l' bs' cs/\l'.hb=l.hb) (λ_=>.panicked (wG e)) (λl'=>bq q l' bs' cs)):L2 Tryz.prog 23 (bq q l bs cs) (aG (.pointer (some ⟨l.hb,0,none⟩))) (pT s) (λl':HL=>gN l' bs' cs/\l'.hb=l.hb) (λ_=>.returned (.int .i64 e)) (λl'=>bq q l' bs' cs):=by
 intro M B w0 v0 v1 hM jx hH kK hv0 da
 have hG:aJ (λk o=>M k o\/B k) jd w0:=kK
 have wZ:nB (bq q l bs cs):=hH.2.1
 have hsz:s.size<=1000000:=by omega
 have hlen:0<(ay s).length:=by rw[dw]; omega
 have Ec:(!bt s)=false:=by rw[hs1.1]; rfl
 have Ed:(!true||!fW ((ay s).length-1) 2 (nD s) tZ)=false:=by rw[hs1.2.2.1]; rfl
 have hgt:¬(s.size:Int)>200:=by omega
 refine Dw (N:=49) Tryz.func23 rfl rfl rfl hM jx hH hv0 da λa hI=>?_
 refine bO hI 1 [⟨4,4,some 0,none,.ptr,25,1,false,pv _,[]⟩] [] [] (.k .z) (.kk .z) ⟨HM .i,trivial⟩ (.k (.k .z)) (.kk .z) λa w hI=>?_
 refine ah ?_
 refine aD ?_
 refine bO hI 3 [] [] [Uc 0 9 _,Uc 1 10 _,Uc 2 8 _] (.k (.k .z)) (.kk .z) ⟨mv,vp false,mv,trivial⟩ (.k (.k .z)) (.bK (.k .z)) λa w hI=>?_
 refine mb hI (rfl) ?_
 refine bO hI 4 [] [] [Uc 0 12 _,Uc 1 13 _,Uc 2 14 _,Uc 3 11 _] (.k (.k .z)) (.aU .z) ⟨mv,gF,bn,mv,trivial⟩ (.k (.k .z)) (.bK (.eC .z)) λa w hI=>?_
 refine mb hI (decide_eq_false hgt) ?_
 refine bO hI 4 [] [] [Uc 0 16 _,Uc 1 17 _,Uc 2 18 _,Uc 3 15 _] (.k (.k .z)) (.aU .z) ⟨mv,Ai hG (mL (s:=s)) (hφ:=hsz),nt,mv,trivial⟩ (.k (.k .z)) (.bK (.eC .z)) λa w hI=>?_
 refine mb hI (Ec) ?_
 refine ak ?_
 refine bk ?_
 refine ae ?_
 refine bO hI 3 [] [] [Uc 0 19 _,Uc 1 20 _,Uc 2 5 _] (.k (.k .z)) (.aU .z) ⟨mv,wU hG (iT (s:=s)) (hφ:=hsz),mv,trivial⟩ (.k (.k .z)) (.bK (.dk .z)) λa w hI=>?_
 refine xd hI [0,0,2,6,15,31,63,63,0,383,1023] [⟨6,6,some 8,none,.ptr,117,2,true,pv _,[(9,pv _)]⟩] [] [Uc 0 22 _,Uc 1 23 _,Uc 2 24 _,Uc 3 25 _,Uc 4 26 _,Uc 5 21 _,Uc 6 27 _,Uc 7 28 _,Uc 10 7 _] (.k (.k .z)) (.aU .z) ⟨Gp mK (hφ:=trivial),mv,az 0 hs hs rfl (pt rfl) hlen (by kernel_rfl) (by kernel_rfl),ax hs (pt rfl) (by kernel_rfl) (aE _),Kj 9 117 (.agg #[.slice none 0 0,.nilFunc]) hs1.2.1,mv,ext,ext,IA [.slice none 0 0,.nilFunc] lU,fj rfl rfl hs rfl rfl (bV (by kernel_rfl)) (jL aP (br _)) (by kernel_rfl),mv,trivial⟩ (.k (.k (.s .o .z))) (.bj (.bp (.cf .z))) λa w hI=>?_
 have hI:=gY hI 2 rfl (by kernel_rfl)
 dsimp only[List.eraseIdx]at hI
 refine ah ?_
 refine xd hI [0,1,3,7,15,7,39,127,255,511] [] [] [Uc 0 29 _,Uc 1 30 _,Uc 2 31 _,Uc 3 32 _,Uc 4 33 _,Uc 5 34 _,Uc 6 35 _,Uc 7 36 _,Uc 8 37 _,Uc 9 38 _] (.k (.k .z)) (.af (.k .z)) ⟨mv,nt,mv,gd λh=>cy h,gd λh=>FI 1 (h:=hg) (hp:=pg h rfl),gd λh=>fP 0 1 false (h:=hg) (hp:=pg h rfl),gd λh=>ax hg (pg h rfl) (by kernel_rfl) aP,gd λh=>ri h (pW (g:=nD s) (φ:=tZ)) (c2:=xO) (hφ:=⟨by have:=gK hsz; omega,by omega,λk _=>kD hsz⟩),gd λh=>CN h,pk,trivial⟩ (.k (.k .z)) (.af (.d8 (.eC .z))) λa w hI=>?_
 refine mb hI (Ed) ?_
 refine ak ?_
 refine ae ?_
 obtain⟨g,hI⟩:=Inv.qn hI 1 rfl rfl rfl
 refine sI hI rfl (by kernel_rfl) (by kernel_rfl) (by kernel_rfl) λa w hI=>?_
 refine ah (Nf hI [0,1,0,0,8,31] 5 [] [] [Uc 0 40 _,Uc 1 41 _,Uc 2 42 _,Uc 3 43 _,Uc 4 44 _] (.k (.k .z)) (.af (.kk .z)) ⟨fP 1 1 false,ax hs (pt rfl) (by kernel_rfl) (br _),mv,mv,FI 1,trivial⟩ (.k (.k .z)) (.mI (.cf (.nP .z))) rfl rfl (Kr hG gj (hf:=hf)) λch a w hr=>?_)
 obtain⟨rfl,l1,ov,hI⟩:=hr
 exact jt (vE (g:=g) l1 ov hI rfl 0 rfl (by decide) rfl (bV (by kernel_rfl)) rfl)
end Wx
