import Derived.Test.YtfnmkhlleanppaaGreatDoorJWC47
namespace Wx
open Go Go.RowKit Go.Proofs
set_option linter.unusedVariables false
variable {a b:Value}
theorem Jo:∀w v,aG (.tuple #[a,b]) w v->∃vs u,v=.tuple vs/\vs[0]?=some u/\aG a w u:=λ_ _ h=>⟨_,a,h,rfl,rfl⟩
theorem Jp:∀w v,aG (.tuple #[a,b]) w v->∃vs u,v=.tuple vs/\vs[1]?=some u/\aG b w u:=λ_ _ h=>⟨_,b,h,rfl,rfl⟩
def tY (_:Nat):ByteArray->Bool:=cC
abbrev Ko:Pred:=dJ (aI 1 false 0 λk=>wA Tryz.prog (qE Tryz.prog (tY k))) (aG .nilFunc)
theorem M3:∀w v,dF (aG (.agg #[.slice none 0 0,.nilFunc])) (pB false) w v->dF Ko (pB false) w v:=by
 rintro w v ⟨u0,u1,rfl,rfl,e1⟩
 exact⟨_,u1,rfl,⟨[.slice none 0 0,.nilFunc],rfl,by simp,⟨none,0,rfl,Nat.le_refl _,Nat.zero_le _,λh=>absurd h (Nat.lt_irrefl _)⟩,by simp,rfl,rfl⟩,e1⟩
theorem vF:Fits 1 false (aG .nilFunc):=cg rR rfl rfl
theorem Ie {p2:Pred}:∀w v,dF (dJ (aI 1 false 1 λk=>[aM].getD k aT) p2) (pB true) w v->dF (dJ (aI 1 false 1 λk=>wA Tryz.prog (qE Tryz.prog (tY k))) p2) (pB true) w v:=by
 rintro w v ⟨u0,u1,rfl,⟨cs,e,h1,h2,h3⟩,e1⟩
 exact⟨u0,u1,rfl,⟨cs,e,h1,D3 _ _ h2,h3⟩,e1⟩
end Wx

namespace Wx
set_option maxRecDepth 100000
set_option maxHeartbeats 1000000
open Go Go.RowKit Go.Proofs
set_option linter.unusedVariables false
attribute [local irreducible] OpOk
variable {l:HL} {H:List Bk} {s:ByteArray} {e:Int} {C:HL->Prop} {Hl:HL->List Bk}
theorem mJ (hc:s.size<=200/\2<=(ay s).length) (hq:dY ((ay s).getD 0 ⟨#[]⟩) kX=none) (gj:L2 Tryz.prog 23 H (aG (.pointer (some ⟨l.hb,0,none⟩))) (pT s) C (λ_=>.returned (.int .i64 e)) Hl):L2 Tryz.prog 55 (H) (aG (.pointer (some ⟨l.hb,0,none⟩))) (pT s) (C) (λ_=>.returned (.tuple #[.string ⟨#[111,107]⟩,.int .i64 e])) (Hl):=by
 intro M B w0 v0 v1 hM jx hH kK hv0 da
 have hG:aJ (λk o=>M k o\/B k) jd w0:=kK
 have wZ:nB (H):=hH.2.1
 have hsz:s.size<=1000000:=by omega
 have hlen:0<(ay s).length:=by rw[dw]; omega
 refine tS (N:=45) Tryz.func55 rfl rfl rfl hM jx hH hv0 da λa hI=>?_
 refine bO hI 2 [] [] [Uc 0 4 _,Uc 1 5 _] (.k .z) (.kk .z) ⟨mv,mv,trivial⟩ (.k .z) (.af .z) λa w hI=>?_
 refine ah ?_
 refine bO hI 2 [] [] [Uc 0 9 _,Uc 1 10 _] (.k .z) (.af .z) ⟨mv,vp false,trivial⟩ (.k .z) (.af (.dk .z)) λa w hI=>?_
 refine mb hI (rfl) ?_
 refine ak ?_
 refine ae ?_
 refine bO hI 3 [] [] [Uc 0 11 _,Uc 1 12 _,Uc 2 6 _] (.k .z) (.af (.k .z)) ⟨mv,wU hG (iT (s:=s)) (hφ:=hsz),mv,trivial⟩ (.k .z) (.af (.cf .z)) λa w hI=>?_
 refine ah ?_
 refine xd hI [0,0,2,6,15,31,63,63,0,383,1023] [⟨7,7,some 8,none,.ptr,151,2,true,pv _,[(9,pv _)]⟩] [] [Uc 0 14 _,Uc 1 15 _,Uc 2 16 _,Uc 3 17 _,Uc 4 18 _,Uc 5 13 _,Uc 6 19 _,Uc 7 20 _,Uc 10 8 _] (.k .z) (.af (.k .z)) ⟨Gp lu (hφ:=trivial),mv,az 0 hs hs rfl (pt rfl) hlen (by kernel_rfl) (by kernel_rfl),ax hs (pt rfl) (by kernel_rfl) (aE _),MY 9 151 (.agg #[.slice none 0 0,.nilFunc]) hq (hp:=Post.down (pt rfl) M3),mv,ext,ext,IA [.slice none 0 0,.nilFunc] lU,fj rfl rfl hs rfl rfl (bV (by kernel_rfl)) (jL aP vF) (by kernel_rfl),mv,trivial⟩ (.k (.s .o .z)) (.af (.gE (.bp (.dk .z)))) λa w hI=>?_
 have hI:=gY hI 1 rfl (by kernel_rfl)
 dsimp only[List.eraseIdx]at hI
 refine xd hI [0,1,3,7,15,31,63,127,255,127,639,2047,4095] [] [] [Uc 0 21 _,Uc 1 22 _,Uc 2 23 _,Uc 3 24 _,Uc 4 25 _,Uc 5 26 _,Uc 6 27 _,Uc 7 28 _,Uc 8 29 _,Uc 9 30 _,Uc 10 31 _,Uc 11 32 _,Uc 12 33 _] (.k .z) (.af (.aU .z)) ⟨mv,mv,gd λh=>cy h,gd λh=>gF (h:=hg) (hp:=pg h rfl),gd λh=>fS h,pk,mv,gd λh=>cy h,gd λh=>FI 1 (h:=hg) (hp:=pg h rfl),gd λh=>fP 0 1 false (h:=hg) (hp:=pg h rfl),gd λh=>ax hg (pg h rfl) (by kernel_rfl) aP,gd λh=>ri h (pW (g:=nD s) (φ:=tY)) (hφ:=⟨by have:=gK hsz; omega,by omega,λk _=>kD hsz⟩),pk,trivial⟩ (.k .z) (.af (.bK (.d8 (.cf .z)))) λa w hI=>?_
 refine mb hI ((rfl:((false&&decide ((s.size:Int)<=200))&&fW ((ay s).length-1) 0 (nD s) tY)=false)) ?_
 refine ak ?_
 refine ae ?_
 refine ju hI 5 2 [] [] [Uc 0 42 _,Uc 1 43 _] (.k .z) (.af (.aU .z)) ⟨mv,mv,trivial⟩ (.k .z) (.bp (.cf (.k .z))) (⟨_,DR hG gj,⟨_,lQ λl1 ov=>bF [] [] [Uc 0 4 _] (.k .z) (.aU .z) (mv) (.k .z) (.gS .z),⟨_,lQ λl1 ov=>bF [] [] [Uc 0 5 _] (.k .z) (.kk .z) (mv) (.k .z) (.xA .z),rfl⟩⟩⟩) λa w hI=>?_
 obtain⟨l1,ov,hI⟩:=hI
 refine av ?_
 exact CK (n0:=0) l1 ov hI rfl rfl cm cm rfl
theorem vX {q:Nat} {x:ig} {cs:List ByteArray} (hl:gN l [x] cs) (hc:s.size<=200/\2<=(ay s).length) (hq:dY ((ay s).getD 0 ⟨#[]⟩) kX=some (dJ (aI 1 false 1 λk=>[aM].getD k aT) (aG (.func (.func 125) #[] #[])))) (J8:fW ((ay s).length-1) 1 (nD s) tY=true/\jg (λk=>[x].getD k gz) 1 (nD s 0)=0/\(0<=x.2.1/\x.2.1<100)):L2 Tryz.prog 55 (bq q l [x] cs) (aG (.pointer (some ⟨l.hb,0,none⟩))) (pT s) (λl':HL=>l'=l) (λ_=>.returned (.tuple #[.string (Hx x.2.1),.int .i64 0])) (λl'=>bq q l' [x] cs):=by
 intro M B w0 v0 v1 hM jx hH kK hv0 da
 have hG:aJ (λk o=>M k o\/B k) jd w0:=kK
 have wZ:nB (bq q l [x] cs):=hH.2.1
 have hsz:s.size<=1000000:=by omega
 have hlen:0<(ay s).length:=by rw[dw]; omega
 have JA:((true&&decide ((s.size:Int)<=200))&&fW ((ay s).length-1) 1 (nD s) tY)=true:=by rw[J8.1,decide_eq_true (by omega)]; rfl
 refine tS (N:=45) Tryz.func55 rfl rfl rfl hM jx hH hv0 da λa hI=>?_
 refine bO hI 2 [] [] [Uc 0 4 _,Uc 1 5 _] (.k .z) (.kk .z) ⟨mv,mv,trivial⟩ (.k .z) (.af .z) λa w hI=>?_
 refine ah ?_
 refine bO hI 2 [] [] [Uc 0 9 _,Uc 1 10 _] (.k .z) (.af .z) ⟨mv,vp false,trivial⟩ (.k .z) (.af (.dk .z)) λa w hI=>?_
 refine mb hI (rfl) ?_
 refine ak ?_
 refine ae ?_
 refine bO hI 3 [] [] [Uc 0 11 _,Uc 1 12 _,Uc 2 6 _] (.k .z) (.af (.k .z)) ⟨mv,wU hG (iT (s:=s)) (hφ:=hsz),mv,trivial⟩ (.k .z) (.af (.cf .z)) λa w hI=>?_
 refine ah ?_
 refine xd hI [0,0,2,6,15,31,63,63,0,383,1023] [⟨7,7,some 8,none,.ptr,151,2,true,pv _,[(9,pv _)]⟩] [] [Uc 0 14 _,Uc 1 15 _,Uc 2 16 _,Uc 3 17 _,Uc 4 18 _,Uc 5 13 _,Uc 6 19 _,Uc 7 20 _,Uc 10 8 _] (.k .z) (.af (.k .z)) ⟨Gp lu (hφ:=trivial),mv,az 0 hs hs rfl (pt rfl) hlen (by kernel_rfl) (by kernel_rfl),ax hs (pt rfl) (by kernel_rfl) (aE _),Kj 9 151 (.agg #[.slice none 0 0,.nilFunc]) hq (hp:=Post.down (pt rfl) Ie),mv,ext,ext,IA [.slice none 0 0,.nilFunc] lU,fj rfl rfl hs rfl rfl (bV (by kernel_rfl)) (jL aP (br _)) (by kernel_rfl),mv,trivial⟩ (.k (.s .o .z)) (.af (.gE (.bp (.dk .z)))) λa w hI=>?_
 have hI:=gY hI 1 rfl (by kernel_rfl)
 dsimp only[List.eraseIdx]at hI
 refine xd hI [0,1,3,7,15,31,63,127,255,127,639,2047,4095] [] [] [Uc 0 21 _,Uc 1 22 _,Uc 2 23 _,Uc 3 24 _,Uc 4 25 _,Uc 5 26 _,Uc 6 27 _,Uc 7 28 _,Uc 8 29 _,Uc 9 30 _,Uc 10 31 _,Uc 11 32 _,Uc 12 33 _] (.k .z) (.af (.aU .z)) ⟨mv,mv,gd λh=>cy h,gd λh=>gF (h:=hg) (hp:=pg h rfl),gd λh=>fS h,pk,mv,gd λh=>cy h,gd λh=>FI 1 (h:=hg) (hp:=pg h rfl),gd λh=>fP 0 1 false (h:=hg) (hp:=pg h rfl),gd λh=>ax hg (pg h rfl) (by kernel_rfl) aP,gd λh=>ri h (pW (g:=nD s) (φ:=tY)) (hφ:=⟨by have:=gK hsz; omega,by omega,λk _=>kD hsz⟩),pk,trivial⟩ (.k .z) (.af (.bK (.d8 (.cf .z)))) λa w hI=>?_
 refine Ir hI (JA) ?_
 refine xd hI [0,1,0,0,8,31,63,63,255,511] [] [] [Uc 0 34 _,Uc 1 35 _,Uc 2 36 _,Uc 3 37 _,Uc 4 38 _,Uc 5 39 _,Uc 6 40 _,Uc 7 41 _,Uc 8 4 _,Uc 9 5 _] (.k .z) (.aU (.t 8 (.t 9 (.kk .z)))) ⟨fP 1 1 false,ax hs (pt rfl) (by kernel_rfl) (br _),mv,mv,FI 1,Je 45 (EK (l:=l) (x:=x) (n:=(ay s).length-1) (g:=nD s) ⟨J8.2.1,J8.2.2,by omega⟩) (λB w u h hu=>iR hl (by show 1<=1; omega) h hu) (dZ (aV _) (aV _)),ext,ext,mv,mv,trivial⟩ (.k .z) (.po (.d8 (.cf (.k .z)))) λa w hI=>?_
 refine av ?_
 refine aj ?_
 exact CK (n0:=0) l rfl hI rfl rfl cm cm rfl
theorem jW {t:ByteArray} (he:0<=e/\e<=9) (gj:L2 Tryz.prog 55 H (aG (.pointer (some ⟨l.hb,0,none⟩))) (pT s) C (λ_=>.returned (.tuple #[.string t,.int .i64 e])) Hl):L2 Tryz.prog 24 (H) (aG (.pointer (some ⟨l.hb,0,none⟩))) (pT s) (C) (λ_=>.returned (.string (oK t e))) (Hl):=by
 intro M B w0 v0 v1 hM jx hH kK hv0 da
 have hG:aJ (λk o=>M k o\/B k) jd w0:=kK
 have wZ:nB (H):=hH.2.1
 refine tS (N:=11) Tryz.func24 rfl rfl rfl hM jx hH hv0 da λa hI=>?_
 refine bO hI 1 [] [] [Uc 0 4 _] (.k .z) (.kk .z) ⟨mv,trivial⟩ (.k .z) (.aU .z) λa w hI=>?_
 refine ju hI 7 2 [] [] [Uc 0 5 _,Uc 1 6 _] (.k .z) (.aU .z) ⟨mv,mv,trivial⟩ (.k .z) (.cf (.k .z)) (⟨_,DR hG gj,⟨_,lQ λl1 ov=>bF [] [] [Uc 0 8 _] (.k .z) (.aU .z) (dQ hs Jo (pt rfl)) (.k .z) (.gS .z),⟨_,lQ λl1 ov=>bF [] [] [Uc 0 9 _] (.k .z) (.kk .z) (dQ hs Jp (pt rfl)) (.k .z) (.xA .z),⟨_,lQ λl1 ov=>bF [] [] [Uc 0 10 _] (.k .z) (.kk .z) (mz (EN (s:=t) (e:=e)) (hφ:=he)) (.k .z) (.eC .z),⟨_,lQ λl1 ov=>bF [] [] [Uc 0 4 _] (.k .z) (.k .z) (mv) (.k .z) (.dk .z),rfl⟩⟩⟩⟩⟩) λa w hI=>?_
 obtain⟨l1,ov,hI⟩:=hI
 refine av ?_
 exact GD (n0:=0) l1 ov hI rfl rfl cm rfl
end Wx

namespace Wx
open Go Go.RowKit Go.Proofs
set_option linter.unusedVariables false
def cB:ByteArray:=⟨#[98,97,116,99,104,32,114,49,32,54,48]⟩
def cA:ByteArray:=⟨#[97,103,101,32,114,49,32,53,48]⟩
def cL:ByteArray:=⟨#[108,105,102,101,32,114,49]⟩
def cN:ByteArray:=⟨#[97,103,101,32,114,50,32,49]⟩
def bB:ig:=(⟨#[114,49]⟩,60,false)
def bA:ig:=(⟨#[114,49]⟩,10,false)
def okB:ByteArray:=⟨#[111,107]⟩
theorem iv:ay cB=[⟨#[98,97,116,99,104]⟩,⟨#[114,49]⟩,⟨#[54,48]⟩]:=by decide +kernel
theorem iu:ay cA=[⟨#[97,103,101]⟩,⟨#[114,49]⟩,⟨#[53,48]⟩]:=by decide +kernel
theorem qN:ay cL=[⟨#[108,105,102,101]⟩,⟨#[114,49]⟩]:=by decide +kernel
theorem iw:ay cN=[⟨#[97,103,101]⟩,⟨#[114,50]⟩,⟨#[49]⟩]:=by decide +kernel
theorem DN:((nD cB 0,dW (nD cB 1),false):ig)=bB:=by decide +kernel
theorem DM:((bB.1,tB (bB.2.1-dW (nD cA 1)) 0,bB.2.2):ig)=bA:=by decide +kernel
theorem LG {Λ:Type} {P:Program} {f:FuncId} {H0:List Bk} {p0 p1:Pred} {C C':Λ->Prop} {E:Λ->Ending} {H:Λ->List Bk} (h:L2 P f H0 p0 p1 C E H) (hC:∀l,C l->C' l):L2 P f H0 p0 p1 C' E H:=λM B w v0 v1 hM hB hH hG h0 h1=>(h M B w v0 v1 hM hB hH hG h0 h1).mono λe w' ⟨l,B',k1,k⟩=>⟨l,B',hC l k1,k⟩
abbrev IG (b:Nat):Pred:=aG (.pointer (some ⟨b,0,none⟩))
theorem Bo:dY ((ay cB).getD 0 ⟨#[]⟩) comms=some (dJ (aI 1 false 2 λk=>[aM,fK].getD k aT) (aG (.func (.func 90) #[] #[]))):=by rw[iv]; kernel_rfl
theorem Hz:dY ((ay cA).getD 0 ⟨#[]⟩) comms=some (dJ (aI 1 false 2 λk=>[aM,fK].getD k aT) (aG (.func (.func 91) #[] #[]))):=by rw[iu]; kernel_rfl
theorem EA:dY ((ay cN).getD 0 ⟨#[]⟩) comms=some (dJ (aI 1 false 2 λk=>[aM,fK].getD k aT) (aG (.func (.func 91) #[] #[]))):=by rw[iw]; kernel_rfl
theorem Fv:dY ((ay cL).getD 0 ⟨#[]⟩) kX=some (dJ (aI 1 false 1 λk=>[aM].getD k aT) (aG (.func (.func 125) #[] #[]))):=by rw[qN]; kernel_rfl
theorem Fw {s:ByteArray} {k:ByteArray} {r:List ByteArray} (h:ay s=k::r) (hk:(kX.all λx=>decide (x.1≠k))=true):dY ((ay s).getD 0 ⟨#[]⟩) kX=none:=by rw[h]; exact ji hk
variable {l:HL} {b:Nat}
theorem Aw (hl:gN l [] []/\l.hb=b):L2 Tryz.prog 24 (bq 0 l [] []) (IG b) (pT cB) (λl':HL=>gN l' [bB] [cB]/\l'.hb=b) (λ_=>.returned (.string okB)) (λl'=>bq 300 l' [bB] [cB]):=by
 obtain⟨hl,rfl⟩:=hl
 have h1:=vY (q:=0) (l:=l) (cs:=[]) (n:=(ay cB).length-1) (g:=nD cB) hl ⟨by decide +kernel,by rw[iv]; decide,by decide +kernel⟩
 rw[DN]at h1
 have h2:=HA (s:=cB) hl ⟨Nat.zero_le _,Nat.zero_le _,by decide +kernel⟩ ⟨by decide +kernel,Bo,by decide +kernel,by rw[iv]; decide⟩ (λ_ _=>by kernel_rfl) h1
 have h3:=mJ (l:=l) ⟨by decide +kernel,by rw[iv]; decide⟩ (Fw iv (by decide +kernel)) h2
 exact jW (l:=l) ⟨Int.le_refl _,by decide⟩ h3
theorem Gd (hl:gN l [bB] [cB]/\l.hb=b):L2 Tryz.prog 24 (bq 300 l [bB] [cB]) (IG b) (pT cA) (λl':HL=>gN l' [bA] [cB,cA]/\l'.hb=b) (λ_=>.returned (.string okB)) (λl'=>bq 600 l' [bA] [cB,cA]):=by
 obtain⟨hl,rfl⟩:=hl
 have h1:=Bu (q:=300) (l:=l) (x:=bB) (cs:=[cB]) (n:=(ay cA).length-1) (g:=nD cA) hl ⟨by decide +kernel,by decide +kernel,by rw[iu]; decide,by decide,by decide +kernel⟩
 rw[DM]at h1
 have h2:=HA (s:=cA) hl ⟨by decide,by decide,by decide +kernel⟩ ⟨by decide +kernel,Hz,by decide +kernel,by rw[iu]; decide⟩ (λ_ _=>by kernel_rfl) (LG h1 λl h=>⟨h.1,h.2.1⟩)
 have h3:=mJ (l:=l) ⟨by decide +kernel,by rw[iu]; decide⟩ (Fw iu (by decide +kernel)) h2
 exact jW (l:=l) ⟨Int.le_refl _,by decide⟩ h3
theorem DC (hl:gN l [bA] [cB,cA]/\l.hb=b):L2 Tryz.prog 24 (bq 600 l [bA] [cB,cA]) (IG b) (pT cL) (λl':HL=>l'=l) (λ_=>.returned (.string ⟨#[49,48]⟩)) (λl'=>bq 600 l' [bA] [cB,cA]):=by
 obtain⟨hl,rfl⟩:=hl
 have h3:=vX (q:=600) (s:=cL) hl ⟨by decide +kernel,by rw[qN]; decide⟩ Fv ⟨by decide +kernel,by decide +kernel,by decide⟩
 have h4:=jW (l:=l) ⟨Int.le_refl _,by decide⟩ h3
 rw[show oK (Hx bA.2.1) 0=⟨#[49,48]⟩ by decide +kernel]at h4
 exact h4
theorem I5 (hl:gN l [bA] [cB,cA]/\l.hb=b):L2 Tryz.prog 24 (bq 600 l [bA] [cB,cA]) (IG b) (pT cN) (λl':HL=>gN l' [bA] [cB,cA]/\l'.hb=b) (λ_=>.returned (.string ⟨#[101,114,114,111,114,32,53]⟩)) (λl'=>bq 600 l' [bA] [cB,cA]):=by
 obtain⟨hl,rfl⟩:=hl
 have h1:=yD (q:=600) (l:=l) (bs:=[bA]) (cs:=[cB,cA]) (n:=(ay cN).length-1) (g:=nD cN) hl ⟨by decide,by decide +kernel,by rw[iw]; decide⟩
 have h2:=HB (s:=cN) hl ⟨by decide,by decide,by decide +kernel⟩ ⟨by decide +kernel,EA,by decide +kernel,by rw[iw]; decide⟩ (λ_ _=>by kernel_rfl) h1
 have h3:=mJ (l:=l) ⟨by decide +kernel,by rw[iw]; decide⟩ (Fw iw (by decide +kernel)) h2
 have h4:=jW (l:=l) ⟨by decide,by decide⟩ h3
 rw[show oK ⟨#[111,107]⟩ 5=⟨#[101,114,114,111,114,32,53]⟩ by decide +kernel]at h4
 exact h4
end Wx

namespace Wx
set_option maxRecDepth 100000
set_option maxHeartbeats 1000000
open Go Go.RowKit Go.Proofs
set_option linter.unusedVariables false
attribute [local irreducible] OpOk
theorem FK:lK 0 ⟨#[97]⟩=3014:=by decide +kernel
theorem FM {m n:Int} (h:m=n):∀w v,ei m w v->ei n w v:=by subst h; exactλ_ _ h=>h
theorem Bt (_:True):J0 Tryz.prog 7 (pB true):=by
 intro M w0 hM hG
 have hG:=dP hG
 refine Cu (N:=29) Tryz.func7 rfl rfl rfl hM λa hI=>?_
 refine au hI 1 [Uc 0 0 _] .z ⟨mv,trivial⟩ (.k .z) λa w hI=>?_
 refine ju hI 2 0 [] [] [] .z (.k .z) trivial .z (.k .z) (⟨_,LR,⟨_,lQ λl hl=>bF [] [] [Uc 0 1 _] (.k .z) (.kk .z) (mv) (.k .z) (.xA .z),rfl⟩⟩) λa w hI=>?_
 obtain⟨l,hl,hI⟩:=hI
 refine ju hI 6 0 [] [] [] (.k .z) (.kk .z) trivial (.k .z) (.kk .z) (⟨_,bF [] [] [Uc 0 5 _] (.k .z) (.kk .z) (mv) (.k .z) (.aU .z),⟨_,DR hG (Aw ⟨hl,rfl⟩),⟨_,lQ λz hz=>bF [] [] [Uc 0 7 _] (.k .z) (.af .z) (mv) (.k .z) (.bj (.k .z)),⟨_,LX λz hz=>DR hG (Gd hz),⟨_,lQ λz hz=>bF [] [] [Uc 0 2 _] (.k .z) (.af (.k .z)) (mv) (.k .z) (.mI (.dk .z)),⟨_,lQ λz hz=>bF [] [] [Uc 0 3 _] (.k .z) (.af .z) (mv) (.k .z) (.qV (.k .z)),rfl⟩⟩⟩⟩⟩⟩) λa w hI=>?_
 obtain⟨z,hz,hI⟩:=hI
 refine ju hI 21 0 [] [] [] (.k .z) (.af .z) trivial (.k .z) (.af .z) (⟨_,bF [] [] [Uc 0 9 _] (.k .z) (.af .z) (mz (yA (h:=0) (s:=⟨#[97]⟩)) (hφ:=by decide)) (.k .z) (.qV (.k .z)),⟨_,bF [] [] [Uc 0 10 _] (.k .z) (.af .z) (cD (m:=3014) (n:=3014) (v:=.bool true) ((hs).imp (FM FK)) hs (λ_=>by kernel_rfl) (pt rfl)) (.k .z) (.bj (.k .z)),⟨_,bF [] [] [Uc 0 11 _] (.k .z) (.af .z) (mv) (.k .z) (.bj (.k .z)),⟨_,Am 2 rfl rfl rfl (bF [] [] [Uc 0 12 _] (.k .z) (.af .z) (mv) (.k .z) (.mI (.k .z))),⟨_,Am 2 rfl rfl rfl (bF [] [] [Uc 0 13 _] (.k .z) (.af .z) (Ca (s:=okB) rfl) (.k .z) (.bj (.k .z))),⟨_,bF [] [] [Uc 0 14 _] (.k .z) (.af .z) (Ia) (.k .z) (.bK (.k .z)),⟨_,bF [] [] [Uc 0 15 _] (.k .z) (.aU .z) (mv) (.k .z) (.bS .z),⟨_,Am 6 rfl rfl rfl (bF [] [] [Uc 0 16 _] (.k .z) (.aU .z) (mv) (.k .z) (.mI .z)),⟨_,Am 6 rfl rfl rfl (bF [] [] [Uc 0 17 _] (.k .z) (.aU .z) (Ca (s:=okB) rfl) (.k .z) (.bS .z)),⟨_,bF [] [] [Uc 0 18 _] (.k .z) (.aU .z) (Ia) (.k .z) (.gS .z),⟨_,bF [] [] [Uc 0 19 _] (.k .z) (.kk .z) (mv) (.k .z) (.nP .z),⟨_,Am 10 rfl rfl rfl (bF [] [] [Uc 0 20 _] (.k .z) (.kk .z) (mv) (.k .z) (.aU .z)),⟨_,Am 10 rfl rfl rfl (LZ (DR hG (DC hz))),⟨_,Am 10 rfl rfl rfl (bF [] [] [Uc 0 22 _] (.k .z) (.af .z) (Ca rfl) (.k .z) (.po (.k .z))),⟨_,bF [] [] [Uc 0 23 _] (.k .z) (.aU .z) (Ia) (.k .z) (.gS .z),⟨_,bF [] [] [Uc 0 24 _] (.k .z) (.kk .z) (mv) (.k .z) (.nP .z),⟨_,Am 15 rfl rfl rfl (bF [] [] [Uc 0 25 _] (.k .z) (.kk .z) (mv) (.k .z) (.xA .z)),⟨_,Am 15 rfl rfl rfl (DR hG (I5 hz)),⟨_,lQ λy hy=>Am 15 rfl rfl rfl (bF [] [] [Uc 0 27 _] (.k .z) (.aU .z) (Ca rfl) (.k .z) (.vD .z)),⟨_,lQ λy hy=>bF [] [] [Uc 0 28 _] (.k .z) (.kk .z) (Ia) (.k .z) (.eC .z),⟨_,lQ λy hy=>bF [] [] [Uc 0 0 _] (.k .z) (.k .z) (mv) (.k .z) (.dk .z),rfl⟩⟩⟩⟩⟩⟩⟩⟩⟩⟩⟩⟩⟩⟩⟩⟩⟩⟩⟩⟩⟩) λa w hI=>?_
 obtain⟨y,hy,hI⟩:=hI
 refine av ?_
 exact bW hI rfl cm
end Wx
