import Derived.Test.YtfnmkhlleanppaaGreatDoorCWFWk13
namespace Wx
set_option maxRecDepth 100000
set_option maxHeartbeats 1000000
open Go Go.RowKit Go.Proofs
set_option linter.unusedVariables false
attribute [local irreducible] OpOk
theorem At {q:Nat} {l:HL} {bs:List fW} {cs:List ByteArray} {s:ByteArray} (hl:fC l bs cs) (hc:cs.length<=40/\q<=100000/\s.size<=200):L2 Tryz.prog 60 (aY q l bs cs) (aL (.pointer (some ⟨l.hb,0,none⟩))) (pT s) (λl':HL=>fC l' bs (cs++[s])/\(l'.hb=l.hb/\l'.bb=l.bb)) (λ_=>.returned (.tuple #[])) (λl'=>aY (q+300) l' bs (cs++[s])):=by
 intro M B w0 v0 v1 hM jc hH jB hv0 dc
 have hG:aN (λk o=>M k o\/B k) jz w0:=jB
 have tq:kW (aY q l bs cs):=hH.2.1
 refine qw (N:=49) Tryz.func60 rfl rfl rfl hM jc hH hv0 dc λa hI=>?_
 refine jn hI 11 7 [] [] [Uc 0 5 _,Uc 1 6 _,Uc 2 7 _,Uc 3 8 _,Uc 4 9 _,Uc 5 10 _,Uc 6 11 _] (.k .z) (.kk .z) ⟨mv,mv,nc,fE 4,lH 49 4 (cr _ _ _ _),mv,wj 9,trivial⟩ (.k .z) (.bq (.rV (.k .z))) (⟨_,Dq (H:=aY q l bs cs) (hv:=eU l.cb cs.length l.cc) (n:=cs.length) (m:=1) 9 1 false (cs.map Value.string) [.string s] (iq (by kernel_rfl)) hs (λ_ _ h=>h) hs (λ_ _ h=>h) (by rw[List.length_map,Nat.mul_one]) (λ_=>rfl) (λ_ _=>aT _) AE (BM hl) (by omega) (by decide),⟨_,nA λz hz=>bj [] [] [Uc 0 13 _] (.k .z) (.ae (.kk .z)) (nc) (.k .z) (.bq (.fh .z)),⟨_,nA λz hz=>bj [] [] [Uc 0 14 _] (.k .z) (.ae .z) (fE 4) (.k .z) (.bq (.k .z)),⟨_,nA λz hz=>bj [] [] [] (.u none [(0,_)] .z) (.ae .z) (sH 49 4 (mD ((mE tq).1 hz).1) (p:=aL (.slice (some ⟨z.1,0,none⟩) (cs.length+1) z.2)) (nl:=br _) (aZ (bt _ _ _) rfl rfl) hs (λ_ _ h=>h)) (.s .o .z) (.mJ .z),rfl⟩⟩⟩⟩) λa w hI=>?_
 obtain⟨z,hz,hI⟩:=hI
 have hI:=CT (H':=aY q (l.jA z) bs (cs++[s])) 0 hI rfl (λ_=>xF tq hz)
 dsimp only[List.set]at hI
 have hl:=hl.jA (s:=s) hz
 refine cD hI 10 [] [] [Uc 0 15 _,Uc 1 16 _,Uc 2 17 _,Uc 3 18 _,Uc 4 19 _,Uc 5 20 _,Uc 6 21 _,Uc 7 22 _,Uc 8 23 _,Uc 9 4 _] (.k .z) (.kk .z) ⟨mv,nc,fE 4,lH 49 4 (cr _ _ _ _),oJ (E:=9) (A':=some ⟨z.1,0,none⟩) (n:=cs.length+1) (cap:=z.2) ((hs).imp wE) (by kernel_rfl) (pt rfl),oZ (uw (n:=((cs.length+1:Nat):Int))) (hφ:=by omega),zn 2 1 hs (mg (uu (by omega))) hs (mg (s:=⟨#[32]⟩) (by decide)),mv,zn (2+1) 200 hs (λ_ _ h=>h) hs (mg hc.2.2),mv,trivial⟩ (.k .z) (.eF (.bN (.bV .z))) λa w hI=>?_
 refine cD hI 10 [] [] [Uc 0 24 _,Uc 1 25 _,Uc 2 26 _,Uc 3 27 _,Uc 4 28 _,Uc 5 29 _,Uc 6 30 _,Uc 7 31 _,Uc 8 32 _] (.u none [(9,_)] .z) (.kk .z) ⟨mv,mv,nc,fE 6,lH 49 6 (cr _ _ _ _),mv,mH (Ak (k:=203)) (hφ:=by omega),nc,fE 6,sH 49 6 (cr _ _ _ _) (p:=AR) (nl:=yH) wC hs (λ_ _ h=>h),trivial⟩ (.s .o .z) (.cg (.bN (.EU .z))) λa w hI=>?_
 have hI:=CT (H':=aY q (l.jA z) bs (cs++[s])) 0 hI rfl vv
 dsimp only[List.set]at hI
 refine Dk hI [0,1,3,7,0,16,0,64,192,448,960,2032,4080,8191,16383,32767,65535] [] [] [Uc 0 33 _,Uc 1 34 _,Uc 2 35 _,Uc 3 36 _,Uc 4 37 _,Uc 5 38 _,Uc 6 39 _,Uc 7 40 _,Uc 8 41 _,Uc 9 42 _,Uc 10 43 _,Uc 11 44 _,Uc 12 45 _,Uc 13 46 _,Uc 14 47 _,Uc 15 48 _] (.u none [(16,_)] .z) (.kk .z) ⟨mv,nc,fE 5,lH 49 5 (cr _ _ _ _),mv,zn (2+1+200) 1 hs (λ_ _ h=>h) hs (mg (s:=⟨#[32]⟩) (by decide)),mv,nc,fE 6,lH 49 6 (cr _ _ _ _),wq hG Cz (hφ:=trivial),zn (2+1+200+1) 8 hs (λ_ _ h=>h) hs (λ_ _ h=>h),zn (2+1+200+1+8) 1 hs (λ_ _ h=>h) hs (mg (s:=⟨#[10]⟩) (by decide)),zn q (2+1+200+1+8+1) hs (λ_ _ h=>h) hs (λ_ _ h=>h),nc,fE 5,sH 49 5 (cr _ _ _ _) (p:=ru (q+300)) (nl:=yG _) (wA _) hs (zc (by omega)),trivial⟩ (.s .o .z) (.d8 (.d8 (.dd .z))) λa w hI=>?_
 have hI:=CT (H':=aY (q+300) (l.jA z) bs (cs++[s])) 0 hI rfl vv
 dsimp only[List.set]at hI
 exact tP (n0:=0) (l.jA z) ⟨hl,rfl,rfl⟩ hI rfl rfl rfl
end Wx

namespace Wx
set_option maxRecDepth 100000
set_option maxHeartbeats 1000000
open Go Go.RowKit Go.Proofs
set_option linter.unusedVariables false
attribute [local irreducible] OpOk
variable {q:Nat} {l:HL} {cs:List ByteArray} {n:Nat} {g:Nat->ByteArray}
theorem wZ {x:fW} (hl:fC l [x] cs) (hc:gR (λk=>[x].getD k fg) 1 (g 0)=0/\fI (g 1)=true/\2<=n/\(0<=x.2.1/\x.2.1<=1000000)/\(0<=fV (g 1)/\fV (g 1)<=1000000)):L2 Tryz.prog 91 (aY q l [x] cs) (aL (.pointer (some ⟨l.hb,0,none⟩))) (az 1 false n λk=>pT (g k)) (λl':HL=>fC l' [(x.1,qc (x.2.1-fV (g 1)) 0,x.2.2)] cs/\(l'.hb=l.hb/\l'.bb=l.bb)) (λ_=>.returned (.tuple #[])) (λl'=>aY q l' [(x.1,qc (x.2.1-fV (g 1)) 0,x.2.2)] cs):=by
 intro M B w0 v0 v1 hM jc hH jB hv0 dc
 have hG:aN (λk o=>M k o\/B k) jz w0:=jB
 have tq:kW (aY q l [x] cs):=hH.2.1
 refine qw (N:=23) Tryz.func91 rfl rfl rfl hM jc hH hv0 dc λa hI=>?_
 refine cD hI 6 [] [] [Uc 0 5 _,Uc 1 6 _,Uc 2 7 _,Uc 3 8 _,Uc 4 9 _,Uc 5 4 _] (.k .z) (.kk .z) ⟨mv,mv,bh 0 hs hs rfl (pt rfl) (by omega) (by kernel_rfl) (by kernel_rfl),aH hs (pt rfl) (by kernel_rfl) (aT _),ES 23 (uD (l:=l) (x:=x) (s:=g 0) hc.1) (λB w u h hu=>gJ hl (by show 1<=1; omega) h hu) (br _),mv,trivial⟩ (.k .z) (.nP (.bV .z)) λa w hI=>?_
 refine Dk hI [0,0,2,6,14,0,32,96,224,510,1022,2047,4095,8191] [] [] [Uc 0 10 _,Uc 1 11 _,Uc 2 12 _,Uc 3 13 _,Uc 4 14 _,Uc 5 15 _,Uc 6 16 _,Uc 7 17 _,Uc 8 18 _,Uc 9 19 _,Uc 10 20 _,Uc 11 21 _,Uc 12 22 _] (.u none [(13,_)] .z) (.kk .z) ⟨mv,mv,nc,fE 1,lH 23 1 (eu (bs:=[x]) (by simp)),mv,bh 1 hs hs rfl (pt rfl) (by omega) (by kernel_rfl) (by kernel_rfl),aH hs (pt rfl) (by kernel_rfl) (aT _),oZ (kn (s:=g 1)) (hφ:=hc.2.1),bn,xz hs hs (pt rfl),nc,fE 1,sH 23 1 (eu (bs:=[x]) (by simp)) (p:=pI (qc (x.2.1-fV (g 1)) 0)) (nl:=br _) (fits_int _) hs (λ_ _ h=>h) (hi:=by rw[fo]; show 1<max 3 _; omega),trivial⟩ (.s .o .z) (.d8 (.bN (.EU .z))) λa w hI=>?_
 have hI:=CT (H':=aY q l [(x.1,qc (x.2.1-fV (g 1)) 0,x.2.2)] cs) 0 hI rfl AY
 dsimp only[List.set]at hI
 exact tP (n0:=0) l ⟨hl.Fp,rfl,rfl⟩ hI rfl rfl rfl
theorem sx (hl:fC l [] cs) (hc:fI (g 1)=true/\2<=n/\fV (g 1)≠0):L2 Tryz.prog 90 (aY q l [] cs) (aL (.pointer (some ⟨l.hb,0,none⟩))) (az 1 false n λk=>pT (g k)) (λl':HL=>fC l' [(g 0,fV (g 1),false)] cs/\l'.hb=l.hb) (λ_=>.returned (.tuple #[])) (λl'=>aY q l' [(g 0,fV (g 1),false)] cs):=by
 intro M B w0 v0 v1 hM jc hH jB hv0 dc
 have hG:aN (λk o=>M k o\/B k) jz w0:=jB
 have tq:kW (aY q l [] cs):=hH.2.1
 refine qw (N:=41) Tryz.func90 rfl rfl rfl hM jc hH hv0 dc λa hI=>?_
 refine cD hI 7 [] [] [Uc 0 4 _,Uc 1 5 _,Uc 2 6 _,Uc 3 7 _,Uc 4 8 _,Uc 5 9 _,Uc 6 10 _] (.k .z) (.kk .z) ⟨mv,mv,bh 0 hs hs rfl (pt rfl) (by omega) (by kernel_rfl) (by kernel_rfl),aH hs (pt rfl) (by kernel_rfl) (aT _),ES 41 (ov (l:=l) (bs:=[]) (s:=g 0) ⟨rfl,by show 0<=1000000; omega⟩) (λB w u h hu=>gJ hl (by show 0<=1; omega) h hu) (br _),Dv false,mH (iL (e:=8)),trivial⟩ (.k .z) (.cg (.bN (.d .z))) λa w hI=>?_
 refine cD hI 6 [] [] [Uc 0 11 _,Uc 1 12 _,Uc 2 13 _,Uc 3 14 _,Uc 4 15 _,Uc 5 16 _] (.k .z) (.kk .z) ⟨mv,bh 1 hs hs rfl (pt rfl) (by omega) (by kernel_rfl) (by kernel_rfl),aH hs (pt rfl) (by kernel_rfl) (aT _),oZ (kn (s:=g 1)) (hφ:=hc.1),bn,mH (iL (e:=1)) (c1:=eL (decide_eq_false hc.2.2)),trivial⟩ (.k .z) (.cg (.bN .z)) λa w hI=>?_
 refine cD hI 7 [] [] [Uc 0 17 _,Uc 1 18 _,Uc 2 19 _,Uc 3 20 _,Uc 4 21 _,Uc 5 22 _,Uc 6 23 _] (.k .z) (.kk .z) ⟨mv,nc,fE 2,lH 41 2 (cr _ _ _ _),oJ (E:=131) (A':=none) (n:=0) (cap:=0) hs (by kernel_rfl) (pt rfl),bn,mH (iL (e:=9)) (c1:=eL rfl),trivial⟩ (.k .z) (.cg (.bN (.d .z))) λa w hI=>?_
 refine Fl hI [0,0,2,6,14,0,32,96,0,256,768,1792,4064,8160,16382,32767,65535,131071] 15 [⟨38,38,some 14,none,.obj,0,0,false,_,[]⟩] [] [Uc 0 24 _,Uc 1 25 _,Uc 2 26 _,Uc 3 27 _,Uc 4 28 _,Uc 5 29 _,Uc 6 30 _,Uc 7 31 _,Uc 8 32 _,Uc 9 33 _,Uc 10 34 _,Uc 11 35 _,Uc 12 36 _,Uc 13 37 _] (.u (some 14) [] .z) (.kk .z) ⟨mv,mv,nc,fE 2,lH 41 2 (cr _ _ _ _),mv,bh 0 hs hs rfl (pt rfl) (by omega) (by kernel_rfl) (by kernel_rfl),aH hs (pt rfl) (by kernel_rfl) (aT _),mv,bh 1 hs hs rfl (pt rfl) (by omega) (by kernel_rfl) (by kernel_rfl),aH hs (pt rfl) (by kernel_rfl) (aT _),oZ (kn (s:=g 1)) (hφ:=hc.1),Ds,BJ 131,qg (E:=131) (H:=aY q l [] cs) (n:=0) (m:=1) (sz:=3) (ag:=true) (l:=[]) (l':=gL (g 0,fV (g 1),false)) 0 rfl rfl rfl rfl (by kernel_rfl) rfl 1 rfl rfl rfl rfl rfl (by kernel_rfl) hs hs rfl (λh=>by cases h) (λ_ _=>iA _) AD (BL (bs:=[]) hl) (iq (by kernel_rfl)) Nat.one_pos (by decide) (.none (by kernel_rfl)),trivial⟩ (.d (.k .z)) (.rV (.d8 (.bN .z))) (⟨_,FE λz hz=>bj [] [] [Uc 0 39 _] (.k .z) (.kk .z) (nc) (.k .z) (.kU .z),⟨_,nA λz hz=>bj [] [] [Uc 0 40 _] (.k .z) (.kk .z) (fE 2) (.k .z) (.kU .z),⟨_,nA λz hz=>bj [] [] [] (.u none [(0,_)] .z) (.kk .z) (sH 38 2 (mD ((mE tq).2 hz).1) (p:=aL (.slice (some ⟨z.1,0,none⟩) (0+1) z.2)) (nl:=br _) (aZ (bt _ _ _) rfl rfl) hs (λ_ _ h=>h)) (.s .o .z) (.dd .z),rfl⟩⟩⟩) λa w hI=>?_
 obtain⟨z,hz,hI⟩:=hI
 have hI:=CT (H':=aY q (l.nF z) [(g 0,fV (g 1),false)] cs) 0 hI rfl (λ_=>xE (bs:=[]) tq hz)
 dsimp only[List.set]at hI
 exact tP (n0:=0) (l.nF z) ⟨fC.nF (bs:=[]) hl hz,rfl⟩ hI rfl rfl rfl
end Wx
