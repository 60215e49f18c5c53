import Derived.Test.YtfnmkhlleanppaaGreatDoorCWNWk13
namespace Wx
set_option maxRecDepth 100000
set_option maxHeartbeats 1000000
open Go Go.RowKit Go.Proofs
set_option linter.unusedVariables false
attribute [local irreducible] OpOk
theorem xR {q:Nat} {l:HL} {bs:List eN} {cs:List ByteArray} {s:ByteArray} (hl:eA l bs cs) (hc:cs.length<=40/\q<=100000/\s.size<=200):L2 Tryz.prog 60 (aR q l bs cs) (aE (.pointer (some ⟨l.hb,0,none⟩))) (pT s) (λl':HL=>eA l' bs (cs++[s])/\(l'.hb=l.hb/\l'.bb=l.bb)) (λ_=>.returned (.tuple #[])) (λl'=>aR (q+300) l' bs (cs++[s])):=by
 intro M B w0 v0 v1 hM ik hH iJ hv0 ck
 have hG:aL (λk o=>M k o\/B k) iM w0:=iJ
 have qU:jF (aR q l bs cs):=hH.2.1
 refine oD (N:=49) Tryz.func60 rfl rfl rfl hM ik hH hv0 ck λa hI=>?_
 refine lM hI 11 7 [] [] [Uc 0 5 _,Uc 1 6 _,Uc 2 7 _,Uc 3 8 _,Uc 4 9 _,Uc 5 10 _,Uc 6 11 _] (.k .z) (.kk .z) ⟨mv,mv,nc,fE 4,lH 49 4 (bN _ _ _ _),mv,Br 9,trivial⟩ (.k .z) (.bT (.nN (.k .z))) (⟨_,Bl (H:=aR q l bs cs) (hv:=dU l.cb cs.length l.cc) (n:=cs.length) (m:=1) 9 1 false (cs.map Value.string) [.string s] (lY (by kernel_rfl)) hs (λ_ _ h=>h) hs (λ_ _ h=>h) (by rw[List.length_map,Nat.mul_one]) (λ_=>rfl) (λ_ _=>bh _) yb (zl hl) (by omega) (by decide),⟨_,lR λz hz=>aY [] [] [Uc 0 13 _] (.k .z) (.af (.kk .z)) (nc) (.k .z) (.bT (.gj .z)),⟨_,lR λz hz=>aY [] [] [Uc 0 14 _] (.k .z) (.af .z) (fE 4) (.k .z) (.bT (.k .z)),⟨_,lR λz hz=>aY [] [] [] (.u none [(0,_)] .z) (.af .z) (sH 49 4 (kK ((kL qU).1 hz).1) (p:=aE (.slice (some ⟨z.1,0,none⟩) (cs.length+1) z.2)) (nl:=aX _) (bG (aZ _ _ _) rfl rfl) hs (λ_ _ h=>h)) (.s .o .z) (.nP .z),rfl⟩⟩⟩⟩) λa w hI=>?_
 obtain⟨z,hz,hI⟩:=hI
 have hI:=AJ (H':=aR q (l.iI z) bs (cs++[s])) 0 hI rfl (λ_=>ve qU hz)
 dsimp only[List.set]at hI
 have hl:=hl.iI (s:=s) hz
 refine da hI 10 [] [] [Uc 0 15 _,Uc 1 16 _,Uc 2 17 _,Uc 3 18 _,Uc 4 19 _,Uc 5 20 _,Uc 6 21 _,Uc 7 22 _,Uc 8 23 _,Uc 9 4 _] (.k .z) (.kk .z) ⟨mv,nc,fE 4,lH 49 4 (bN _ _ _ _),mZ (E:=9) (A':=some ⟨z.1,0,none⟩) (n:=cs.length+1) (cap:=z.2) ((hs).imp uk) (by kernel_rfl) (pt rfl),qO (rZ (n:=((cs.length+1:Nat):Int))) (hφ:=by omega),wJ 2 1 hs (kB (rX (by omega))) hs (kB (s:=⟨#[32]⟩) (by decide)),mv,wJ (2+1) 200 hs (λ_ _ h=>h) hs (kB hc.2.2),mv,trivial⟩ (.k .z) (.jO (.bY (.ct .z))) λa w hI=>?_
 refine da hI 10 [] [] [Uc 0 24 _,Uc 1 25 _,Uc 2 26 _,Uc 3 27 _,Uc 4 28 _,Uc 5 29 _,Uc 6 30 _,Uc 7 31 _,Uc 8 32 _] (.u none [(9,_)] .z) (.kk .z) ⟨mv,mv,nc,fE 6,lH 49 6 (bN _ _ _ _),mv,iB (xL (k:=203)) (hφ:=by omega),nc,fE 6,sH 49 6 (bN _ _ _ _) (p:=yq) (nl:=vU) uj hs (λ_ _ h=>h),trivial⟩ (.s .o .z) (.bJ (.bY (.CI .z))) λa w hI=>?_
 have hI:=AJ (H':=aR q (l.iI z) bs (cs++[s])) 0 hI rfl tq
 dsimp only[List.set]at hI
 refine CA hI [0,1,3,7,0,16,0,64,192,448,960,2032,4080,8191,16383,32767,65535] [] [] [Uc 0 33 _,Uc 1 34 _,Uc 2 35 _,Uc 3 36 _,Uc 4 37 _,Uc 5 38 _,Uc 6 39 _,Uc 7 40 _,Uc 8 41 _,Uc 9 42 _,Uc 10 43 _,Uc 11 44 _,Uc 12 45 _,Uc 13 46 _,Uc 14 47 _,Uc 15 48 _] (.u none [(16,_)] .z) (.kk .z) ⟨mv,nc,fE 5,lH 49 5 (bN _ _ _ _),mv,wJ (2+1+200) 1 hs (λ_ _ h=>h) hs (kB (s:=⟨#[32]⟩) (by decide)),mv,nc,fE 6,lH 49 6 (bN _ _ _ _),AZ hG Aj (hφ:=trivial),wJ (2+1+200+1) 8 hs (λ_ _ h=>h) hs (λ_ _ h=>h),wJ (2+1+200+1+8) 1 hs (λ_ _ h=>h) hs (kB (s:=⟨#[10]⟩) (by decide)),wJ q (2+1+200+1+8+1) hs (λ_ _ h=>h) hs (λ_ _ h=>h),nc,fE 5,sH 49 5 (bN _ _ _ _) (p:=pq (q+300)) (nl:=vT _) (ug _) hs (wD (by omega)),trivial⟩ (.s .o .z) (.d8 (.d8 (.dd .z))) λa w hI=>?_
 have hI:=AJ (H':=aR (q+300) (l.iI z) bs (cs++[s])) 0 hI rfl tq
 dsimp only[List.set]at hI
 exact rB (n0:=0) (l.iI z) ⟨hl,rfl,rfl⟩ hI rfl rfl rfl
end Wx

namespace Wx
set_option maxRecDepth 100000
set_option maxHeartbeats 1000000
open Go Go.RowKit Go.Proofs
set_option linter.unusedVariables false
attribute [local irreducible] OpOk
variable {q:Nat} {l:HL} {cs:List ByteArray} {n:Nat} {g:Nat->ByteArray}
theorem uH {x:eN} (hl:eA l [x] cs) (hc:fT (λk=>[x].getD k ee) 1 (g 0)=0/\eD (g 1)=true/\2<=n/\(0<=x.2.1/\x.2.1<=1000000)/\(0<=eM (g 1)/\eM (g 1)<=1000000)):L2 Tryz.prog 91 (aR q l [x] cs) (aE (.pointer (some ⟨l.hb,0,none⟩))) (aK 1 false n λk=>pT (g k)) (λl':HL=>eA l' [(x.1,om (x.2.1-eM (g 1)) 0,x.2.2)] cs/\(l'.hb=l.hb/\l'.bb=l.bb)) (λ_=>.returned (.tuple #[])) (λl'=>aR q l' [(x.1,om (x.2.1-eM (g 1)) 0,x.2.2)] cs):=by
 intro M B w0 v0 v1 hM ik hH iJ hv0 ck
 have hG:aL (λk o=>M k o\/B k) iM w0:=iJ
 have qU:jF (aR q l [x] cs):=hH.2.1
 refine oD (N:=23) Tryz.func91 rfl rfl rfl hM ik hH hv0 ck λa hI=>?_
 refine da hI 6 [] [] [Uc 0 5 _,Uc 1 6 _,Uc 2 7 _,Uc 3 8 _,Uc 4 9 _,Uc 5 4 _] (.k .z) (.kk .z) ⟨mv,mv,aV 0 hs hs rfl (pt rfl) (by omega) (by kernel_rfl) (by kernel_rfl),aI hs (pt rfl) (by kernel_rfl) (bh _),CG 23 (sw (l:=l) (x:=x) (s:=g 0) hc.1) (λB w u h hu=>fA hl (by show 1<=1; omega) h hu) (aX _),mv,trivial⟩ (.k .z) (.nO (.ct .z)) λa w hI=>?_
 refine CA hI [0,0,2,6,14,0,32,96,224,510,1022,2047,4095,8191] [] [] [Uc 0 10 _,Uc 1 11 _,Uc 2 12 _,Uc 3 13 _,Uc 4 14 _,Uc 5 15 _,Uc 6 16 _,Uc 7 17 _,Uc 8 18 _,Uc 9 19 _,Uc 10 20 _,Uc 11 21 _,Uc 12 22 _] (.u none [(13,_)] .z) (.kk .z) ⟨mv,mv,nc,fE 1,lH 23 1 (dD (bs:=[x]) (by simp)),mv,aV 1 hs hs rfl (pt rfl) (by omega) (by kernel_rfl) (by kernel_rfl),aI hs (pt rfl) (by kernel_rfl) (bh _),qO (ji (s:=g 1)) (hφ:=hc.2.1),bn,uZ hs hs (pt rfl),nc,fE 1,sH 23 1 (dD (bs:=[x]) (by simp)) (p:=pI (om (x.2.1-eM (g 1)) 0)) (nl:=aX _) (fits_int _) hs (λ_ _ h=>h) (hi:=by rw[er]; show 1<max 3 _; omega),trivial⟩ (.s .o .z) (.d8 (.bY (.CI .z))) λa w hI=>?_
 have hI:=AJ (H':=aR q l [(x.1,om (x.2.1-eM (g 1)) 0,x.2.2)] cs) 0 hI rfl yA
 dsimp only[List.set]at hI
 exact rB (n0:=0) l ⟨hl.Db,rfl,rfl⟩ hI rfl rfl rfl
theorem ql (hl:eA l [] cs) (hc:eD (g 1)=true/\2<=n/\eM (g 1)≠0):L2 Tryz.prog 90 (aR q l [] cs) (aE (.pointer (some ⟨l.hb,0,none⟩))) (aK 1 false n λk=>pT (g k)) (λl':HL=>eA l' [(g 0,eM (g 1),false)] cs/\l'.hb=l.hb) (λ_=>.returned (.tuple #[])) (λl'=>aR q l' [(g 0,eM (g 1),false)] cs):=by
 intro M B w0 v0 v1 hM ik hH iJ hv0 ck
 have hG:aL (λk o=>M k o\/B k) iM w0:=iJ
 have qU:jF (aR q l [] cs):=hH.2.1
 refine oD (N:=41) Tryz.func90 rfl rfl rfl hM ik hH hv0 ck λa hI=>?_
 refine da hI 7 [] [] [Uc 0 4 _,Uc 1 5 _,Uc 2 6 _,Uc 3 7 _,Uc 4 8 _,Uc 5 9 _,Uc 6 10 _] (.k .z) (.kk .z) ⟨mv,mv,aV 0 hs hs rfl (pt rfl) (by omega) (by kernel_rfl) (by kernel_rfl),aI hs (pt rfl) (by kernel_rfl) (bh _),CG 41 (mJ (l:=l) (bs:=[]) (s:=g 0) ⟨rfl,by show 0<=1000000; omega⟩) (λB w u h hu=>fA hl (by show 0<=1; omega) h hu) (aX _),Bp false,iB (gL (e:=8)),trivial⟩ (.k .z) (.bJ (.bY (.d .z))) λa w hI=>?_
 refine da hI 6 [] [] [Uc 0 11 _,Uc 1 12 _,Uc 2 13 _,Uc 3 14 _,Uc 4 15 _,Uc 5 16 _] (.k .z) (.kk .z) ⟨mv,aV 1 hs hs rfl (pt rfl) (by omega) (by kernel_rfl) (by kernel_rfl),aI hs (pt rfl) (by kernel_rfl) (bh _),qO (ji (s:=g 1)) (hφ:=hc.1),bn,iB (gL (e:=1)) (c1:=fQ (decide_eq_false hc.2.2)),trivial⟩ (.k .z) (.bJ (.bY .z)) λa w hI=>?_
 refine da hI 7 [] [] [Uc 0 17 _,Uc 1 18 _,Uc 2 19 _,Uc 3 20 _,Uc 4 21 _,Uc 5 22 _,Uc 6 23 _] (.k .z) (.kk .z) ⟨mv,nc,fE 2,lH 41 2 (bN _ _ _ _),mZ (E:=131) (A':=none) (n:=0) (cap:=0) hs (by kernel_rfl) (pt rfl),bn,iB (gL (e:=9)) (c1:=fQ rfl),trivial⟩ (.k .z) (.bJ (.bY (.d .z))) λa w hI=>?_
 refine C7 hI [0,0,2,6,14,0,32,96,0,256,768,1792,4064,8160,16382,32767,65535,131071] 15 [⟨38,38,some 14,none,.obj,0,0,false,_,[]⟩] [] [Uc 0 24 _,Uc 1 25 _,Uc 2 26 _,Uc 3 27 _,Uc 4 28 _,Uc 5 29 _,Uc 6 30 _,Uc 7 31 _,Uc 8 32 _,Uc 9 33 _,Uc 10 34 _,Uc 11 35 _,Uc 12 36 _,Uc 13 37 _] (.u (some 14) [] .z) (.kk .z) ⟨mv,mv,nc,fE 2,lH 41 2 (bN _ _ _ _),mv,aV 0 hs hs rfl (pt rfl) (by omega) (by kernel_rfl) (by kernel_rfl),aI hs (pt rfl) (by kernel_rfl) (bh _),mv,aV 1 hs hs rfl (pt rfl) (by omega) (by kernel_rfl) (by kernel_rfl),aI hs (pt rfl) (by kernel_rfl) (bh _),qO (ji (s:=g 1)) (hφ:=hc.1),Bn,zj 131,ou (E:=131) (H:=aR q l [] cs) (n:=0) (m:=1) (sz:=3) (ag:=true) (l:=[]) (l':=fI (g 0,eM (g 1),false)) 0 rfl rfl rfl rfl (by kernel_rfl) rfl 1 rfl rfl rfl rfl rfl (by kernel_rfl) hs hs rfl (λh=>by cases h) (λ_ _=>gA _) ya (zk (bs:=[]) hl) (lY (by kernel_rfl)) Nat.one_pos (by decide) (.none (by kernel_rfl)),trivial⟩ (.d (.k .z)) (.nN (.d8 (.bY .z))) (⟨_,Dq λz hz=>aY [] [] [Uc 0 39 _] (.k .z) (.kk .z) (nc) (.k .z) (.lg .z),⟨_,lR λz hz=>aY [] [] [Uc 0 40 _] (.k .z) (.kk .z) (fE 2) (.k .z) (.lg .z),⟨_,lR λz hz=>aY [] [] [] (.u none [(0,_)] .z) (.kk .z) (sH 38 2 (kK ((kL qU).2 hz).1) (p:=aE (.slice (some ⟨z.1,0,none⟩) (0+1) z.2)) (nl:=aX _) (bG (aZ _ _ _) rfl rfl) hs (λ_ _ h=>h)) (.s .o .z) (.dd .z),rfl⟩⟩⟩) λa w hI=>?_
 obtain⟨z,hz,hI⟩:=hI
 have hI:=AJ (H':=aR q (l.lX z) [(g 0,eM (g 1),false)] cs) 0 hI rfl (λ_=>vc (bs:=[]) qU hz)
 dsimp only[List.set]at hI
 exact rB (n0:=0) (l.lX z) ⟨eA.lX (bs:=[]) hl hz,rfl⟩ hI rfl rfl rfl
end Wx
