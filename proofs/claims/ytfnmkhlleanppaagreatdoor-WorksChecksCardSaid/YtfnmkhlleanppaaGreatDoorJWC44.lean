import Derived.Test.YtfnmkhlleanppaaGreatDoorJWC43
namespace Wx
open Go Go.RowKit Go.Proofs
set_option linter.unusedVariables false
variable {q:Nat} {l:HL} {bs:List ig} {cs:List ByteArray} {s:ByteArray} {z:Nat×Nat}
theorem gN.lF (h:gN l bs cs) (hz:iX (bq q l bs cs) (gm l.cb cs.length l.cc) (cs.length+1) z):gN (l.lF z) bs (cs++[s]):=⟨h.b1,h.b2,by rw[List.length_append]; exact hz.1,hz.2.1⟩
theorem gN.qG {s:ig} (h:gN l bs cs) (hz:iX (bq q l bs cs) (gm l.bb bs.length l.bc) (bs.length+1) z):gN (l.qG z) (bs++[s]) cs:=⟨by rw[List.length_append]; exact hz.1,hz.2.1,h.c1,h.c2⟩
theorem Gn (h:gN l bs cs):(gm l.cb cs.length l.cc=.slice none 0 0/\cs.length=0)\/∃b cap,gm l.cb cs.length l.cc=.slice (some ⟨b,0,none⟩) cs.length cap/\cs.length<=cap/\cap<=maxLen/\fB b (cs.map Value.string) (cap*1)∈bq q l bs cs:=by
 by_cases h0:cs.length=0
 ·exact .inl ⟨if_pos h0,h0⟩
 ·exact .inr ⟨l.cb,l.cc,if_neg h0,h.c1,h.c2,jS h0⟩
theorem Gm (h:gN l bs cs):(gm l.bb bs.length l.bc=.slice none 0 0/\bs.length=0)\/∃b cap,gm l.bb bs.length l.bc=.slice (some ⟨b,0,none⟩) bs.length cap/\bs.length<=cap/\cap<=maxLen/\fB b (bs.flatMap ja) (cap*3)∈bq q l bs cs:=by
 by_cases h0:bs.length=0
 ·exact .inl ⟨if_pos h0,h0⟩
 ·exact .inr ⟨l.bb,l.bc,if_neg h0,h.b1,h.b2,fH h0⟩
theorem EY:∀(w:World) (cs:List Value),cs.length=1*1->(∀i,i<1->pT s w (aq false ((cs.drop (i*1)).take 1)))->cs=[.string s]:=λw cs hl h=>by
 match cs,hl,h with
 |[u],_,h=>
  have:u=.string s:=h 0 (by omega)
  rw[this]
variable {x:ig}
theorem EX:∀(w:World) (cs:List Value),cs.length=1*3->(∀i,i<1->jn x w (aq true ((cs.drop (i*3)).take 3)))->cs=ja x:=λw cs hl h=>by
 match cs,hl,h with
 |[u0,u1,u2],_,h=>
  obtain⟨ds,e,_,h0,_,h1,_,h2,_⟩:=h 0 (by omega)
  have e:Value.agg [u0,u1,u2].toArray=.agg ds.toArray:=e
  have e:[u0,u1,u2]=ds:=by simpa using e
  subst e
  have h0:u0=.string x.1:=h0
  have h1:u1=.int .i64 x.2.1:=h1
  have h2:u2=.bool x.2.2:=h2
  rw[h0,h1,h2]
  rfl
theorem A3:∀w v,aG (gm (l.lF z).cb (cs++[s]).length (l.lF z).cc) w v->aG (.slice (some ⟨z.1,0,none⟩) (cs.length+1) z.2) w v:=by
 rw[List.length_append,xW (by simp)]
 exactλ_ _ h=>h
theorem Fy {v:Int} {nl:aO (pI v)} (hp:nB (dm (bq q l [x] cs) l.bb 1 ⟨pI v,nl⟩)):(∀e,e∈bq q l [(x.1,v,x.2.2)] cs->e∈dm (bq q l [x] cs) l.bb 1 ⟨pI v,nl⟩)/\nB (bq q l [(x.1,v,x.2.2)] cs):=by
 have hp:=uA hp
 have h0:=List.pairwise_cons.1 hp
 have h1:=List.pairwise_append.1 h0.2
 refine⟨λe he=>?_,?_⟩
 ·unfold dm
  rcases List.mem_cons.1 he with rfl|he
  ·exact List.mem_map.2 ⟨bI l.hb (wX q l 1 cs.length),List.mem_cons_self,kW (h0.1 _ (List.mem_append_left _ (aR.2 ⟨by simp,rfl⟩)))⟩
  ·rcases List.mem_append.1 he with he|he
   ·obtain⟨_,rfl⟩:=aR.1 he
    refine List.mem_map.2 ⟨fB l.bb ([x].flatMap ja) (l.bc*3),fH (by simp),?_⟩
    refine(if_pos rfl).trans ?_
    have:=zJ (l:=[x].flatMap ja) (p:=l.bc*3) (k:=1) (v:=.int .i64 v) (by show 1<3; omega)
    show bI l.bb ((eI ([x].flatMap ja) (l.bc*3)).set 1 (Bn (.int .i64 v)))=_
    rw[this]
    rfl
   ·obtain⟨hc,rfl⟩:=aR.1 he
    exact List.mem_map.2 ⟨_,jS hc,kW (h1.2.2 _ (aR.2 ⟨by simp,rfl⟩) _ (aR.2 ⟨hc,rfl⟩)).symm⟩
 ·refine List.pairwise_cons.2 ⟨λe he=>?_,List.pairwise_append.2 ⟨?_,?_,λa ha b hb=>?_⟩⟩
  ·rcases List.mem_append.1 he with he|he
   ·obtain⟨_,rfl⟩:=aR.1 he
    exact h0.1 (fB l.bb ([x].flatMap ja) (l.bc*3)) (List.mem_append_left _ (aR.2 ⟨by simp,rfl⟩))
   ·exact h0.1 _ (List.mem_append_right _ he)
  ·unfold nF; split<;>simp
  ·unfold nF; split<;>simp
  ·obtain⟨_,rfl⟩:=aR.1 ha
   exact h1.2.2 (fB l.bb ([x].flatMap ja) (l.bc*3)) (aR.2 ⟨by simp,rfl⟩) b hb
theorem gN.LI {y:ig} (h:gN l [x] cs):gN l [y] cs:=⟨h.b1,h.b2,h.c1,h.c2⟩
section
variable {P:Program} {ops:Array Oper} {ms:List Nat} {c:bQ} {V:List Vr} {A:List Al} {G:List aN} {i d:Nat} {x y z:Operand} {ty:TypeId} {pos:String} {aft:Array Edge}{T:TypeId}
theorem I9 {s:ByteArray} {n:Int} (h1:Has ms G i x (pT s):=by exact hs) (h2:Has ms G i y (pI n):=by exact hs) (hp:Post G i (jn (s,n,false)):=by exact pt rfl) (ht:oO P T #[(0,1),(1,1),(2,1)] [.string ⟨#[]⟩,.int .i64 0,.bool false]:=by exactλ_=>by kernel_rfl):
  OpOk P ops ms c V A G i ⟨some d,.build T #[(0,x),(1,y)],ty,pos,aft,none⟩:=
 rU (fs:=[⟨false,1,aT⟩,⟨false,1,aT⟩,⟨false,1,pB false⟩]) (ps:=[(0,pT s),(1,pI n)]) (gs:=[⟨false,1,pT s⟩,⟨false,1,pI n⟩,⟨false,1,pB false⟩]) ht (oF (by kernel_rfl)) (λw=>⟨by simp,trivial,by simp,trivial,by simp,rfl,rfl⟩) (show bZ ms G i _ [(0,x),(1,y)] _ from⟨⟨rfl,h1,_,rfl,aE _⟩,⟨rfl,h2,_,rfl,fits_int _⟩,trivial⟩) rfl hp
theorem Gj {b:ig} (E:TypeId) (ht:iZ P T E 3:=by exact⟨by kernel_rfl,λ_=>by kernel_rfl⟩) (pM:∀w,(zeroValue E).run P w=.ok (.agg #[.string ⟨#[]⟩,.int .i64 0,.bool false]) w:=by exactλ_=>by kernel_rfl) (h1:Has ms G i x (jn b):=by exact hs) (hp:Post G i (aI 3 true 1 λ_=>jn b):=by exact pt rfl):
  OpOk P ops ms c V A G i ⟨some d,.buildSlice T 1 #[(0,x)],ty,pos,aft,none⟩:=
 dL (z:=[.string ⟨#[]⟩,.int .i64 0,.bool false]) (fs:=[⟨true,3,aT⟩]) (ps:=[(0,jn b)]) (gs:=[⟨true,3,jn b⟩]) (p:=aT) ht pM rfl rfl (by decide) (λ_=>trivial) rfl
  (show bZ ms G i [⟨true,3,aT⟩] [(0,x)] [(0,jn b)]from⟨⟨rfl,h1,_,rfl,jI _⟩,trivial⟩) rfl (λ_=>jn b) (λk f h=>by
   match k,h with
   |0,h=>simp at h; rw[<-h]
   |k+1,h=>simp at h) hp
end
section
variable {P:Program} {ops:Array Oper} {c:bQ} {V:List Vr} {G:List aN} {id s:Nat} {o:Oper}
theorem LY {H:List Bk} {hv:Value} {N sz:Nat} {l:List Value} {K1:Nat×Nat->Act->World->Prop} (h:∀z:Nat×Nat,iX H hv N z->∀a w,Inv c (aZ id s (jA H z.1 (eI l (z.2*sz)))::V) [] (⟨none,none,s,aG (.slice (some ⟨z.1,0,none⟩) N z.2)⟩::G) none_ a w->aW P ops o a w (K1 z)) (hu:((aZ id s H::V).filter λy=>y.id==id).length=1:=by kernel_rfl):
  ∀a w,Inv c (⟨id,s,none,none,.obj,0,0,false,zw H hv N sz l,[]⟩::V) [] G none_ a w->aW P ops o a w (λa w=>∃z,iX H hv N z/\K1 z a w):=λa w hI=>by
 obtain⟨z,hz,hI⟩:=Ff hI 0 rfl (by simp only[List.filter_cons,beq_self_eq_true,if_true,List.length_cons]at hu ⊢; exact hu)
 exact(h z hz a w hI).mono λa w hk=>⟨z,hz,hk⟩
end
end Wx

namespace Wx
set_option maxRecDepth 100000
set_option maxHeartbeats 1000000
open Go Go.RowKit Go.Proofs
set_option linter.unusedVariables false
attribute [local irreducible] OpOk
theorem EL {q:Nat} {l:HL} {bs:List ig} {cs:List ByteArray} {s:ByteArray} (hl:gN l bs cs) (hc:cs.length<=40/\q<=100000/\s.size<=200):L2 Tryz.prog 60 (bq q l bs cs) (aG (.pointer (some ⟨l.hb,0,none⟩))) (pT s) (λl':HL=>gN l' bs (cs++[s])/\(l'.hb=l.hb/\l'.bb=l.bb)) (λ_=>.returned (.tuple #[])) (λl'=>bq (q+300) l' bs (cs++[s])):=by
 intro M B w0 v0 v1 hM jx hH kK hv0 da
 have hG:aJ (λk o=>M k o\/B k) jd w0:=kK
 have wZ:nB (bq q l bs cs):=hH.2.1
 refine tS (N:=49) Tryz.func60 rfl rfl rfl hM jx hH hv0 da λa hI=>?_
 refine ju hI 11 7 [] [] [Uc 0 5 _,Uc 1 6 _,Uc 2 7 _,Uc 3 8 _,Uc 4 9 _,Uc 5 10 _,Uc 6 11 _] (.k .z) (.kk .z) ⟨mv,mv,nc,fE 4,lH 49 4 (cO _ _ _ _),mv,vq 9,trivial⟩ (.k .z) (.bj (.qR (.k .z))) (⟨_,I8 (H:=bq q l bs cs) (hv:=gm l.cb cs.length l.cc) (n:=cs.length) (m:=1) 9 1 false (cs.map Value.string) [.string s] (ir (by kernel_rfl)) hs (λ_ _ h=>h) hs (λ_ _ h=>h) (by rw[List.length_map,Nat.mul_one]) (λ_=>rfl) (λ_ _=>aE _) EY (Gn hl) (by omega) (by decide),⟨_,lQ λz hz=>bF [] [] [Uc 0 13 _] (.k .z) (.af (.kk .z)) (nc) (.k .z) (.bj (.eC .z)),⟨_,lQ λz hz=>bF [] [] [Uc 0 14 _] (.k .z) (.af .z) (fE 4) (.k .z) (.bj (.k .z)),⟨_,lQ λz hz=>bF [] [] [] (.u none [(0,_)] .z) (.af .z) (sH 49 4 (oT ((oV wZ).1 hz).1) (p:=aG (.slice (some ⟨z.1,0,none⟩) (cs.length+1) z.2)) (nl:=aV _) (cg (bu _ _ _) rfl rfl) hs (λ_ _ h=>h)) (.s .o .z) (.po .z),rfl⟩⟩⟩⟩) λa w hI=>?_
 obtain⟨z,hz,hI⟩:=hI
 have hI:=Ig (H':=bq q (l.lF z) bs (cs++[s])) 0 hI rfl (λ_=>B6 wZ hz)
 dsimp only[List.set]at hI
 have hl:=hl.lF (s:=s) hz
 refine bO hI 10 [] [] [Uc 0 15 _,Uc 1 16 _,Uc 2 17 _,Uc 3 18 _,Uc 4 19 _,Uc 5 20 _,Uc 6 21 _,Uc 7 22 _,Uc 8 23 _,Uc 9 4 _] (.k .z) (.kk .z) ⟨mv,nc,fE 4,lH 49 4 (cO _ _ _ _),rX (E:=9) (A':=some ⟨z.1,0,none⟩) (n:=cs.length+1) (cap:=z.2) ((hs).imp A3) (by kernel_rfl) (pt rfl),nH (yz (n:=((cs.length+1:Nat):Int))) (hφ:=by omega),DD 2 1 hs (oL (yq (by omega))) hs (oL (s:=⟨#[32]⟩) (by decide)),mv,DD (2+1) 200 hs (λ_ _ h=>h) hs (oL hc.2.2),mv,trivial⟩ (.k .z) (.gE (.bp (.cf .z))) λa w hI=>?_
 refine bO hI 10 [] [] [Uc 0 24 _,Uc 1 25 _,Uc 2 26 _,Uc 3 27 _,Uc 4 28 _,Uc 5 29 _,Uc 6 30 _,Uc 7 31 _,Uc 8 32 _] (.u none [(9,_)] .z) (.kk .z) ⟨mv,mv,nc,fE 6,lH 49 6 (cO _ _ _ _),mv,mz (EC (k:=203)) (hφ:=by omega),nc,fE 6,sH 49 6 (cO _ _ _ _) (p:=Fp) (nl:=C8) AV hs (λ_ _ h=>h),trivial⟩ (.s .o .z) (.bK (.bp (.Gr .z))) λa w hI=>?_
 have hI:=Ig (H':=bq q (l.lF z) bs (cs++[s])) 0 hI rfl zI
 dsimp only[List.set]at hI
 refine I3 hI [0,1,3,7,0,16,0,64,192,448,960,2032,4080,8191,16383,32767,65535] [] [] [Uc 0 33 _,Uc 1 34 _,Uc 2 35 _,Uc 3 36 _,Uc 4 37 _,Uc 5 38 _,Uc 6 39 _,Uc 7 40 _,Uc 8 41 _,Uc 9 42 _,Uc 10 43 _,Uc 11 44 _,Uc 12 45 _,Uc 13 46 _,Uc 14 47 _,Uc 15 48 _] (.u none [(16,_)] .z) (.kk .z) ⟨mv,nc,fE 5,lH 49 5 (cO _ _ _ _),mv,DD (2+1+200) 1 hs (λ_ _ h=>h) hs (oL (s:=⟨#[32]⟩) (by decide)),mv,nc,fE 6,lH 49 6 (cO _ _ _ _),Ai hG HF (hφ:=trivial),DD (2+1+200+1) 8 hs (λ_ _ h=>h) hs (λ_ _ h=>h),DD (2+1+200+1+8) 1 hs (λ_ _ h=>h) hs (oL (s:=⟨#[10]⟩) (by decide)),DD q (2+1+200+1+8+1) hs (λ_ _ h=>h) hs (λ_ _ h=>h),nc,fE 5,sH 49 5 (cO _ _ _ _) (p:=uP (q+300)) (nl:=C7 _) (AR _) hs (Dx (by omega)),trivial⟩ (.s .o .z) (.d8 (.d8 (.dd .z))) λa w hI=>?_
 have hI:=Ig (H':=bq (q+300) (l.lF z) bs (cs++[s])) 0 hI rfl zI
 dsimp only[List.set]at hI
 exact xF (n0:=0) (l.lF z) ⟨hl,rfl,rfl⟩ hI rfl rfl rfl
end Wx

namespace Wx
set_option maxRecDepth 100000
set_option maxHeartbeats 1000000
open Go Go.RowKit Go.Proofs
set_option linter.unusedVariables false
attribute [local irreducible] OpOk
variable {q:Nat} {l:HL} {cs:List ByteArray} {n:Nat} {g:Nat->ByteArray}
theorem Bu {x:ig} (hl:gN l [x] cs) (hc:jg (λk=>[x].getD k gz) 1 (g 0)=0/\bJ (g 1)=true/\2<=n/\(0<=x.2.1/\x.2.1<=1000000)/\(0<=dW (g 1)/\dW (g 1)<=1000000)):L2 Tryz.prog 91 (bq q l [x] cs) (aG (.pointer (some ⟨l.hb,0,none⟩))) (aI 1 false n λk=>pT (g k)) (λl':HL=>gN l' [(x.1,tB (x.2.1-dW (g 1)) 0,x.2.2)] cs/\(l'.hb=l.hb/\l'.bb=l.bb)) (λ_=>.returned (.tuple #[])) (λl'=>bq q l' [(x.1,tB (x.2.1-dW (g 1)) 0,x.2.2)] cs):=by
 intro M B w0 v0 v1 hM jx hH kK hv0 da
 have hG:aJ (λk o=>M k o\/B k) jd w0:=kK
 have wZ:nB (bq q l [x] cs):=hH.2.1
 refine tS (N:=23) Tryz.func91 rfl rfl rfl hM jx hH hv0 da λa hI=>?_
 refine bO hI 6 [] [] [Uc 0 5 _,Uc 1 6 _,Uc 2 7 _,Uc 3 8 _,Uc 4 9 _,Uc 5 4 _] (.k .z) (.kk .z) ⟨mv,mv,az 0 hs hs rfl (pt rfl) (by omega) (by kernel_rfl) (by kernel_rfl),ax hs (pt rfl) (by kernel_rfl) (aE _),KU 23 (yE (l:=l) (x:=x) (s:=g 0) hc.1) (λB w u h hu=>iR hl (by show 1<=1; omega) h hu) (aV _),mv,trivial⟩ (.k .z) (.lG (.cf .z)) λa w hI=>?_
 refine I3 hI [0,0,2,6,14,0,32,96,224,510,1022,2047,4095,8191] [] [] [Uc 0 10 _,Uc 1 11 _,Uc 2 12 _,Uc 3 13 _,Uc 4 14 _,Uc 5 15 _,Uc 6 16 _,Uc 7 17 _,Uc 8 18 _,Uc 9 19 _,Uc 10 20 _,Uc 11 21 _,Uc 12 22 _] (.u none [(13,_)] .z) (.kk .z) ⟨mv,mv,nc,fE 1,lH 23 1 (fH (bs:=[x]) (by simp)),mv,az 1 hs hs rfl (pt rfl) (by omega) (by kernel_rfl) (by kernel_rfl),ax hs (pt rfl) (by kernel_rfl) (aE _),nH (jX (s:=g 1)) (hφ:=hc.2.1),bn,BW hs hs (pt rfl),nc,fE 1,sH 23 1 (fH (bs:=[x]) (by simp)) (p:=pI (tB (x.2.1-dW (g 1)) 0)) (nl:=aV _) (fits_int _) hs (λ_ _ h=>h) (hi:=by rw[gI]; show 1<max 3 _; omega),trivial⟩ (.s .o .z) (.d8 (.bp (.Gr .z))) λa w hI=>?_
 have hI:=Ig (H':=bq q l [(x.1,tB (x.2.1-dW (g 1)) 0,x.2.2)] cs) 0 hI rfl Fy
 dsimp only[List.set]at hI
 exact xF (n0:=0) l ⟨hl.LI,rfl,rfl⟩ hI rfl rfl rfl
theorem vY (hl:gN l [] cs) (hc:bJ (g 1)=true/\2<=n/\dW (g 1)≠0):L2 Tryz.prog 90 (bq q l [] cs) (aG (.pointer (some ⟨l.hb,0,none⟩))) (aI 1 false n λk=>pT (g k)) (λl':HL=>gN l' [(g 0,dW (g 1),false)] cs/\l'.hb=l.hb) (λ_=>.returned (.tuple #[])) (λl'=>bq q l' [(g 0,dW (g 1),false)] cs):=by
 intro M B w0 v0 v1 hM jx hH kK hv0 da
 have hG:aJ (λk o=>M k o\/B k) jd w0:=kK
 have wZ:nB (bq q l [] cs):=hH.2.1
 refine tS (N:=41) Tryz.func90 rfl rfl rfl hM jx hH hv0 da λa hI=>?_
 refine bO hI 7 [] [] [Uc 0 4 _,Uc 1 5 _,Uc 2 6 _,Uc 3 7 _,Uc 4 8 _,Uc 5 9 _,Uc 6 10 _] (.k .z) (.kk .z) ⟨mv,mv,az 0 hs hs rfl (pt rfl) (by omega) (by kernel_rfl) (by kernel_rfl),ax hs (pt rfl) (by kernel_rfl) (aE _),KU 41 (rH (l:=l) (bs:=[]) (s:=g 0) ⟨rfl,by show 0<=1000000; omega⟩) (λB w u h hu=>iR hl (by show 0<=1; omega) h hu) (aV _),Jb false,mz (jY (e:=8)),trivial⟩ (.k .z) (.bK (.bp (.d .z))) λa w hI=>?_
 refine bO hI 6 [] [] [Uc 0 11 _,Uc 1 12 _,Uc 2 13 _,Uc 3 14 _,Uc 4 15 _,Uc 5 16 _] (.k .z) (.kk .z) ⟨mv,az 1 hs hs rfl (pt rfl) (by omega) (by kernel_rfl) (by kernel_rfl),ax hs (pt rfl) (by kernel_rfl) (aE _),nH (jX (s:=g 1)) (hφ:=hc.1),bn,mz (jY (e:=1)) (c1:=cQ (decide_eq_false hc.2.2)),trivial⟩ (.k .z) (.bK (.bp .z)) λa w hI=>?_
 refine bO hI 7 [] [] [Uc 0 17 _,Uc 1 18 _,Uc 2 19 _,Uc 3 20 _,Uc 4 21 _,Uc 5 22 _,Uc 6 23 _] (.k .z) (.kk .z) ⟨mv,nc,fE 2,lH 41 2 (cO _ _ _ _),rX (E:=131) (A':=none) (n:=0) (cap:=0) hs (by kernel_rfl) (pt rfl),bn,mz (jY (e:=9)) (c1:=cQ rfl),trivial⟩ (.k .z) (.bK (.bp (.d .z))) λa w hI=>?_
 refine KJ hI [0,0,2,6,14,0,32,96,0,256,768,1792,4064,8160,16382,32767,65535,131071] 15 [⟨38,38,some 14,none,.obj,0,0,false,_,[]⟩] [] [Uc 0 24 _,Uc 1 25 _,Uc 2 26 _,Uc 3 27 _,Uc 4 28 _,Uc 5 29 _,Uc 6 30 _,Uc 7 31 _,Uc 8 32 _,Uc 9 33 _,Uc 10 34 _,Uc 11 35 _,Uc 12 36 _,Uc 13 37 _] (.u (some 14) [] .z) (.kk .z) ⟨mv,mv,nc,fE 2,lH 41 2 (cO _ _ _ _),mv,az 0 hs hs rfl (pt rfl) (by omega) (by kernel_rfl) (by kernel_rfl),ax hs (pt rfl) (by kernel_rfl) (aE _),mv,az 1 hs hs rfl (pt rfl) (by omega) (by kernel_rfl) (by kernel_rfl),ax hs (pt rfl) (by kernel_rfl) (aE _),nH (jX (s:=g 1)) (hφ:=hc.1),I9,Gj 131,tF (E:=131) (H:=bq q l [] cs) (n:=0) (m:=1) (sz:=3) (ag:=true) (l:=[]) (l':=ja (g 0,dW (g 1),false)) 0 rfl rfl rfl rfl (by kernel_rfl) rfl 1 rfl rfl rfl rfl rfl (by kernel_rfl) hs hs rfl (λh=>by cases h) (λ_ _=>jI _) EX (Gm (bs:=[]) hl) (ir (by kernel_rfl)) Nat.one_pos (by decide) (.none (by kernel_rfl)),trivial⟩ (.d (.k .z)) (.qR (.d8 (.bp .z))) (⟨_,LY λz hz=>bF [] [] [Uc 0 39 _] (.k .z) (.kk .z) (nc) (.k .z) (.nP .z),⟨_,lQ λz hz=>bF [] [] [Uc 0 40 _] (.k .z) (.kk .z) (fE 2) (.k .z) (.nP .z),⟨_,lQ λz hz=>bF [] [] [] (.u none [(0,_)] .z) (.kk .z) (sH 38 2 (oT ((oV wZ).2 hz).1) (p:=aG (.slice (some ⟨z.1,0,none⟩) (0+1) z.2)) (nl:=aV _) (cg (bu _ _ _) rfl rfl) hs (λ_ _ h=>h)) (.s .o .z) (.dd .z),rfl⟩⟩⟩) λa w hI=>?_
 obtain⟨z,hz,hI⟩:=hI
 have hI:=Ig (H':=bq q (l.qG z) [(g 0,dW (g 1),false)] cs) 0 hI rfl (λ_=>B5 (bs:=[]) wZ hz)
 dsimp only[List.set]at hI
 exact xF (n0:=0) (l.qG z) ⟨gN.qG (bs:=[]) hl hz,rfl⟩ hI rfl rfl rfl
end Wx
