import Derived.Test.YtfnmkhlleanppaaGreatDoorCWBWk13
namespace Wx
set_option maxRecDepth 100000
set_option maxHeartbeats 1000000
open Go Go.RowKit Go.Proofs
set_option linter.unusedVariables false
attribute [local irreducible] OpOk
theorem Aw {q:Nat} {l:HL} {bs:List fZ} {cs:List ByteArray} {s:ByteArray} (hl:fG l bs cs) (hc:cs.length<=40/\q<=100000/\s.size<=200):L2 Tryz.prog 60 (aV q l bs cs) (aJ (.pointer (some ⟨l.hb,0,none⟩))) (pT s) (λl':HL=>fG l' bs (cs++[s])/\(l'.hb=l.hb/\l'.bb=l.bb)) (λ_=>.returned (.tuple #[])) (λl'=>aV (q+300) l' bs (cs++[s])):=by
 intro M B w0 v0 v1 hM jg hH jI hv0 dH
 have hG:aK (λk o=>M k o\/B k) jG w0:=jI
 have tI:lg (aV q l bs cs):=hH.2.1
 refine qC (N:=49) Tryz.func60 rfl rfl rfl hM jg hH hv0 dH λa hI=>?_
 refine lM hI 11 7 [] [] [Uc 0 5 _,Uc 1 6 _,Uc 2 7 _,Uc 3 8 _,Uc 4 9 _,Uc 5 10 _,Uc 6 11 _] (.k .z) (.kk .z) ⟨mv,mv,nc,fE 4,lH 49 4 (cg _ _ _ _),mv,BM 9,trivial⟩ (.k .z) (.bC (.sk (.k .z))) (⟨_,Dt (H:=aV q l bs cs) (hv:=fc l.cb cs.length l.cc) (n:=cs.length) (m:=1) 9 1 false (cs.map Value.string) [.string s] (gj (by kernel_rfl)) hs (λ_ _ h=>h) hs (λ_ _ h=>h) (by rw[List.length_map,Nat.mul_one]) (λ_=>rfl) (λ_ _=>aW _) AH (BQ hl) (by omega) (by decide),⟨_,nI λz hz=>bh [] [] [Uc 0 13 _] (.k .z) (.ae (.kk .z)) (nc) (.k .z) (.bC (.fJ .z)),⟨_,nI λz hz=>bh [] [] [Uc 0 14 _] (.k .z) (.ae .z) (fE 4) (.k .z) (.bC (.k .z)),⟨_,nI λz hz=>bh [] [] [] (.u none [(0,_)] .z) (.ae .z) (sH 49 4 (mJ ((mK tI).1 hz).1) (p:=aJ (.slice (some ⟨z.1,0,none⟩) (cs.length+1) z.2)) (nl:=bj _) (aX (bq _ _ _) rfl rfl) hs (λ_ _ h=>h)) (.s .o .z) (.mQ .z),rfl⟩⟩⟩⟩) λa w hI=>?_
 obtain⟨z,hz,hI⟩:=hI
 have hI:=CZ (H':=aV q (l.jH z) bs (cs++[s])) 0 hI rfl (λ_=>xO tI hz)
 dsimp only[List.set]at hI
 have hl:=hl.jH (s:=s) hz
 refine cQ hI 10 [] [] [Uc 0 15 _,Uc 1 16 _,Uc 2 17 _,Uc 3 18 _,Uc 4 19 _,Uc 5 20 _,Uc 6 21 _,Uc 7 22 _,Uc 8 23 _,Uc 9 4 _] (.k .z) (.kk .z) ⟨mv,nc,fE 4,lH 49 4 (cg _ _ _ _),oV (E:=9) (A':=some ⟨z.1,0,none⟩) (n:=cs.length+1) (cap:=z.2) ((hs).imp wM) (by kernel_rfl) (pt rfl),tB (uH (n:=((cs.length+1:Nat):Int))) (hφ:=by omega),zo 2 1 hs (mw (uF (by omega))) hs (mw (s:=⟨#[32]⟩) (by decide)),mv,zo (2+1) 200 hs (λ_ _ h=>h) hs (mw hc.2.2),mv,trivial⟩ (.k .z) (.fg (.bR (.cx .z))) λa w hI=>?_
 refine cQ hI 10 [] [] [Uc 0 24 _,Uc 1 25 _,Uc 2 26 _,Uc 3 27 _,Uc 4 28 _,Uc 5 29 _,Uc 6 30 _,Uc 7 31 _,Uc 8 32 _] (.u none [(9,_)] .z) (.kk .z) ⟨mv,mv,nc,fE 6,lH 49 6 (cg _ _ _ _),mv,mN (Ap (k:=203)) (hφ:=by omega),nc,fE 6,sH 49 6 (cg _ _ _ _) (p:=AW) (nl:=yM) wH hs (λ_ _ h=>h),trivial⟩ (.s .o .z) (.cj (.bR (.ES .z))) λa w hI=>?_
 have hI:=CZ (H':=aV q (l.jH z) bs (cs++[s])) 0 hI rfl vF
 dsimp only[List.set]at hI
 refine Dp hI [0,1,3,7,0,16,0,64,192,448,960,2032,4080,8191,16383,32767,65535] [] [] [Uc 0 33 _,Uc 1 34 _,Uc 2 35 _,Uc 3 36 _,Uc 4 37 _,Uc 5 38 _,Uc 6 39 _,Uc 7 40 _,Uc 8 41 _,Uc 9 42 _,Uc 10 43 _,Uc 11 44 _,Uc 12 45 _,Uc 13 46 _,Uc 14 47 _,Uc 15 48 _] (.u none [(16,_)] .z) (.kk .z) ⟨mv,nc,fE 5,lH 49 5 (cg _ _ _ _),mv,zo (2+1+200) 1 hs (λ_ _ h=>h) hs (mw (s:=⟨#[32]⟩) (by decide)),mv,nc,fE 6,lH 49 6 (cg _ _ _ _),wv hG CF (hφ:=trivial),zo (2+1+200+1) 8 hs (λ_ _ h=>h) hs (λ_ _ h=>h),zo (2+1+200+1+8) 1 hs (λ_ _ h=>h) hs (mw (s:=⟨#[10]⟩) (by decide)),zo q (2+1+200+1+8+1) hs (λ_ _ h=>h) hs (λ_ _ h=>h),nc,fE 5,sH 49 5 (cg _ _ _ _) (p:=rG (q+300)) (nl:=yL _) (wF _) hs (zg (by omega)),trivial⟩ (.s .o .z) (.d8 (.d8 (.dd .z))) λa w hI=>?_
 have hI:=CZ (H':=aV (q+300) (l.jH z) bs (cs++[s])) 0 hI rfl vF
 dsimp only[List.set]at hI
 exact ua (n0:=0) (l.jH z) ⟨hl,rfl,rfl⟩ hI rfl rfl rfl
end Wx

namespace Wx
set_option maxRecDepth 100000
set_option maxHeartbeats 1000000
open Go Go.RowKit Go.Proofs
set_option linter.unusedVariables false
attribute [local irreducible] OpOk
variable {q:Nat} {l:HL} {cs:List ByteArray} {n:Nat} {g:Nat->ByteArray}
theorem xm {x:fZ} (hl:fG l [x] cs) (hc:gV (λk=>[x].getD k fl) 1 (g 0)=0/\fK (g 1)=true/\2<=n/\(0<=x.2.1/\x.2.1<=1000000)/\(0<=fX (g 1)/\fX (g 1)<=1000000)):L2 Tryz.prog 91 (aV q l [x] cs) (aJ (.pointer (some ⟨l.hb,0,none⟩))) (ax 1 false n λk=>pT (g k)) (λl':HL=>fG l' [(x.1,ql (x.2.1-fX (g 1)) 0,x.2.2)] cs/\(l'.hb=l.hb/\l'.bb=l.bb)) (λ_=>.returned (.tuple #[])) (λl'=>aV q l' [(x.1,ql (x.2.1-fX (g 1)) 0,x.2.2)] cs):=by
 intro M B w0 v0 v1 hM jg hH jI hv0 dH
 have hG:aK (λk o=>M k o\/B k) jG w0:=jI
 have tI:lg (aV q l [x] cs):=hH.2.1
 refine qC (N:=23) Tryz.func91 rfl rfl rfl hM jg hH hv0 dH λa hI=>?_
 refine cQ hI 6 [] [] [Uc 0 5 _,Uc 1 6 _,Uc 2 7 _,Uc 3 8 _,Uc 4 9 _,Uc 5 4 _] (.k .z) (.kk .z) ⟨mv,mv,aZ 0 hs hs rfl (pt rfl) (by omega) (by kernel_rfl) (by kernel_rfl),aE hs (pt rfl) (by kernel_rfl) (aW _),EP 23 (uO (l:=l) (x:=x) (s:=g 0) hc.1) (λB w u h hu=>gM hl (by show 1<=1; omega) h hu) (bj _),mv,trivial⟩ (.k .z) (.qb (.cx .z)) λa w hI=>?_
 refine Dp hI [0,0,2,6,14,0,32,96,224,510,1022,2047,4095,8191] [] [] [Uc 0 10 _,Uc 1 11 _,Uc 2 12 _,Uc 3 13 _,Uc 4 14 _,Uc 5 15 _,Uc 6 16 _,Uc 7 17 _,Uc 8 18 _,Uc 9 19 _,Uc 10 20 _,Uc 11 21 _,Uc 12 22 _] (.u none [(13,_)] .z) (.kk .z) ⟨mv,mv,nc,fE 1,lH 23 1 (eI (bs:=[x]) (by simp)),mv,aZ 1 hs hs rfl (pt rfl) (by omega) (by kernel_rfl) (by kernel_rfl),aE hs (pt rfl) (by kernel_rfl) (aW _),tB (kx (s:=g 1)) (hφ:=hc.2.1),bn,xK hs hs (pt rfl),nc,fE 1,sH 23 1 (eI (bs:=[x]) (by simp)) (p:=pI (ql (x.2.1-fX (g 1)) 0)) (nl:=bj _) (fits_int _) hs (λ_ _ h=>h) (hi:=by rw[fA]; show 1<max 3 _; omega),trivial⟩ (.s .o .z) (.d8 (.bR (.ES .z))) λa w hI=>?_
 have hI:=CZ (H':=aV q l [(x.1,ql (x.2.1-fX (g 1)) 0,x.2.2)] cs) 0 hI rfl A4
 dsimp only[List.set]at hI
 exact ua (n0:=0) l ⟨hl.Fs,rfl,rfl⟩ hI rfl rfl rfl
theorem sL (hl:fG l [] cs) (hc:fK (g 1)=true/\2<=n/\fX (g 1)≠0):L2 Tryz.prog 90 (aV q l [] cs) (aJ (.pointer (some ⟨l.hb,0,none⟩))) (ax 1 false n λk=>pT (g k)) (λl':HL=>fG l' [(g 0,fX (g 1),false)] cs/\l'.hb=l.hb) (λ_=>.returned (.tuple #[])) (λl'=>aV q l' [(g 0,fX (g 1),false)] cs):=by
 intro M B w0 v0 v1 hM jg hH jI hv0 dH
 have hG:aK (λk o=>M k o\/B k) jG w0:=jI
 have tI:lg (aV q l [] cs):=hH.2.1
 refine qC (N:=41) Tryz.func90 rfl rfl rfl hM jg hH hv0 dH λa hI=>?_
 refine cQ hI 7 [] [] [Uc 0 4 _,Uc 1 5 _,Uc 2 6 _,Uc 3 7 _,Uc 4 8 _,Uc 5 9 _,Uc 6 10 _] (.k .z) (.kk .z) ⟨mv,mv,aZ 0 hs hs rfl (pt rfl) (by omega) (by kernel_rfl) (by kernel_rfl),aE hs (pt rfl) (by kernel_rfl) (aW _),EP 41 (oG (l:=l) (bs:=[]) (s:=g 0) ⟨rfl,by show 0<=1000000; omega⟩) (λB w u h hu=>gM hl (by show 0<=1; omega) h hu) (bj _),Dw false,mN (iM (e:=8)),trivial⟩ (.k .z) (.cj (.bR (.d .z))) λa w hI=>?_
 refine cQ hI 6 [] [] [Uc 0 11 _,Uc 1 12 _,Uc 2 13 _,Uc 3 14 _,Uc 4 15 _,Uc 5 16 _] (.k .z) (.kk .z) ⟨mv,aZ 1 hs hs rfl (pt rfl) (by omega) (by kernel_rfl) (by kernel_rfl),aE hs (pt rfl) (by kernel_rfl) (aW _),tB (kx (s:=g 1)) (hφ:=hc.1),bn,mN (iM (e:=1)) (c1:=ee (decide_eq_false hc.2.2)),trivial⟩ (.k .z) (.cj (.bR .z)) λa w hI=>?_
 refine cQ hI 7 [] [] [Uc 0 17 _,Uc 1 18 _,Uc 2 19 _,Uc 3 20 _,Uc 4 21 _,Uc 5 22 _,Uc 6 23 _] (.k .z) (.kk .z) ⟨mv,nc,fE 2,lH 41 2 (cg _ _ _ _),oV (E:=131) (A':=none) (n:=0) (cap:=0) hs (by kernel_rfl) (pt rfl),bn,mN (iM (e:=9)) (c1:=ee rfl),trivial⟩ (.k .z) (.cj (.bR (.d .z))) λa w hI=>?_
 refine Fo hI [0,0,2,6,14,0,32,96,0,256,768,1792,4064,8160,16382,32767,65535,131071] 15 [⟨38,38,some 14,none,.obj,0,0,false,_,[]⟩] [] [Uc 0 24 _,Uc 1 25 _,Uc 2 26 _,Uc 3 27 _,Uc 4 28 _,Uc 5 29 _,Uc 6 30 _,Uc 7 31 _,Uc 8 32 _,Uc 9 33 _,Uc 10 34 _,Uc 11 35 _,Uc 12 36 _,Uc 13 37 _] (.u (some 14) [] .z) (.kk .z) ⟨mv,mv,nc,fE 2,lH 41 2 (cg _ _ _ _),mv,aZ 0 hs hs rfl (pt rfl) (by omega) (by kernel_rfl) (by kernel_rfl),aE hs (pt rfl) (by kernel_rfl) (aW _),mv,aZ 1 hs hs rfl (pt rfl) (by omega) (by kernel_rfl) (by kernel_rfl),aE hs (pt rfl) (by kernel_rfl) (aW _),tB (kx (s:=g 1)) (hφ:=hc.1),Du,BN 131,qo (E:=131) (H:=aV q l [] cs) (n:=0) (m:=1) (sz:=3) (ag:=true) (l:=[]) (l':=gQ (g 0,fX (g 1),false)) 0 rfl rfl rfl rfl (by kernel_rfl) rfl 1 rfl rfl rfl rfl rfl (by kernel_rfl) hs hs rfl (λh=>by cases h) (λ_ _=>iB _) AG (BP (bs:=[]) hl) (gj (by kernel_rfl)) Nat.one_pos (by decide) (.none (by kernel_rfl)),trivial⟩ (.d (.k .z)) (.sk (.d8 (.bR .z))) (⟨_,FK λz hz=>bh [] [] [Uc 0 39 _] (.k .z) (.kk .z) (nc) (.k .z) (.lf .z),⟨_,nI λz hz=>bh [] [] [Uc 0 40 _] (.k .z) (.kk .z) (fE 2) (.k .z) (.lf .z),⟨_,nI λz hz=>bh [] [] [] (.u none [(0,_)] .z) (.kk .z) (sH 38 2 (mJ ((mK tI).2 hz).1) (p:=aJ (.slice (some ⟨z.1,0,none⟩) (0+1) z.2)) (nl:=bj _) (aX (bq _ _ _) rfl rfl) hs (λ_ _ h=>h)) (.s .o .z) (.dd .z),rfl⟩⟩⟩) λa w hI=>?_
 obtain⟨z,hz,hI⟩:=hI
 have hI:=CZ (H':=aV q (l.nP z) [(g 0,fX (g 1),false)] cs) 0 hI rfl (λ_=>xN (bs:=[]) tI hz)
 dsimp only[List.set]at hI
 exact ua (n0:=0) (l.nP z) ⟨fG.nP (bs:=[]) hl hz,rfl⟩ hI rfl rfl rfl
end Wx
