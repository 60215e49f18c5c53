import Derived.Test.YtikkgpljpglnbaaGreatJRM45
namespace Wx
set_option maxRecDepth 100000
open Go Go.RowKit Go.Proofs
set_option linter.unusedVariables false
attribute [local irreducible] OpOk
section
variable {P:Program} {ops:Array Oper} {ms:List Nat} {c:cF} {V:List Vr} {A:List Al} {G:List aQ} {i d:Nat} {x y z:Operand} {ty:TypeId} {pos:String} {aI:Array Edge}
theorem Q6 {α:Type} {C:α->Prop} {o:Oper} {K K1:α->Act->World->Prop} (h:∀x,C x->∀a w,K x a w->bR P ops o a w (K1 x)):∀a w,(∃x,C x/\K x a w)->bR P ops o a w (λa w=>∃x,C x/\K1 x a w):=λa w ⟨x,hc,hx⟩=>(h x hc a w hx).mono λa w h=>⟨x,hc,h⟩
variable {p:Pt}
theorem wS {w:World} {cs:List Value} (h:cq p w (aq true cs)):cs=[.int .i64 p.1,.int .i64 p.2]:=by
 have e:Value.agg cs.toArray=.agg #[.int .i64 p.1,.int .i64 p.2]:=nL h
 simpa using e
variable {T:TypeId} {v:Vr} {b:Nat}
theorem my (N:Nat) (hv:jv N V=some v:=by exact rfl) (ho:aX ms i v=true:=by exact rfl) (bD:v.kd=.obj:=by exact rfl) (hst:(v.st.all λq=>(q.1==i||(ms.getD i 0).testBit q.1)||(ms.getD q.1 0).testBit i)=true:=by kernel_rfl)
  (hc:cont (λj=>(ms.getD i 0).testBit j) v.c0 v.st=kN b 2 (cq p):=by exact rfl) (h:Has ms G i y (bg (.pointer (some ⟨b,0,none⟩))):=by exact hs) (hp:Post G i (cq p):=by exact pt rfl) (ht:zn P T true 2=true:=by kernel_rfl):OpOk P ops ms c V A G i ⟨some d,.load T y,ty,pos,aI,none⟩:=by
 obtain⟨⟨k,hk⟩,_⟩:=cC hv
 exact mE k hk ho bD hst hc h (m:=2) (by omega) (bF ht) (λw cs hl h=>by rw[List.drop_zero,List.take_of_length_le (by omega)]; exact h) (bK _) hp
variable {off:Nat}
theorem MO (N:Nat) (hv:jv N V=some v:=by exact rfl) (ho:aX ms i v=true:=by exact rfl) (bD:v.kd=.obj:=by exact rfl) (hst:(v.st.all λq=>(q.1==i||(ms.getD i 0).testBit q.1)||(ms.getD q.1 0).testBit i)=true:=by kernel_rfl)
  (hc:cont (λj=>(ms.getD i 0).testBit j) v.c0 v.st=kN b 2 (cq p):=by exact rfl) (h:Has ms G i y (bg (.pointer (some ⟨b,off,none⟩))):=by exact hs) (hp:Post G i (pI p.1):=by exact pt rfl) (ht:zn P T false 1=true:=by kernel_rfl) (hoff:off=0:=by rfl):OpOk P ops ms c V A G i ⟨some d,.load T y,ty,pos,aI,none⟩:=by
 obtain⟨⟨k,hk⟩,_⟩:=cC hv
 subst hoff
 exact mE k hk ho bD hst hc h (m:=1) (by omega) (bF ht) (λw cs hl h=>by rw[wS h]; rfl) (bu _) hp
theorem Qa (N:Nat) (hv:jv N V=some v:=by exact rfl) (ho:aX ms i v=true:=by exact rfl) (bD:v.kd=.obj:=by exact rfl) (hst:(v.st.all λq=>(q.1==i||(ms.getD i 0).testBit q.1)||(ms.getD q.1 0).testBit i)=true:=by kernel_rfl)
  (hc:cont (λj=>(ms.getD i 0).testBit j) v.c0 v.st=kN b 2 (cq p):=by exact rfl) (h:Has ms G i y (bg (.pointer (some ⟨b,off,none⟩))):=by exact hs) (hp:Post G i (pI p.2):=by exact pt rfl) (ht:zn P T false 1=true:=by kernel_rfl) (hoff:off=1:=by rfl):OpOk P ops ms c V A G i ⟨some d,.load T y,ty,pos,aI,none⟩:=by
 obtain⟨⟨k,hk⟩,_⟩:=cC hv
 subst hoff
 exact mE k hk ho bD hst hc h (m:=1) (by omega) (bF ht) (λw cs hl h=>by rw[wS h]; rfl) (bu _) hp
theorem GK {p':Pt} {r:List (Nat×Rel)} (N:Nat) (hv:jv N V=some v:=by exact rfl) (ho:aX ms i v=true:=by exact rfl) (bD:v.kd=.obj:=by exact rfl) (hst:(v.st.all λq=>(q.1==i||(ms.getD i 0).testBit q.1)||(ms.getD q.1 0).testBit i)=true:=by kernel_rfl)
  (hc:cont (λj=>(ms.getD i 0).testBit j) v.c0 v.st=kN b 2 (cq p):=by exact rfl) (h:Has ms G i y (bg (.pointer (some ⟨b,0,none⟩))):=by exact hs) (hz:Has ms G i z (cq p'):=by exact hs) (hm:Kv i v.st=some (kN b 2 (cq p'),r):=by exact rfl) (ht:zn P T true 2=true:=by kernel_rfl)
  (hr:(r.all λr=>(ms.getD r.1 0).testBit i)=true:=by kernel_rfl) (kL:(V.all λy=>y.id==v.id||y.st.all λq=>q.1 != i)=true:=by kernel_rfl):OpOk P ops ms c V A G i ⟨none,.store T y z,ty,pos,aI,none⟩:=by
 obtain⟨⟨k',hk⟩,_⟩:=cC hv
 obtain⟨m,h5,h6⟩:=pH hm
 exact tA (m:=2) (ag:=true) k' hk ho bD hst m h5 (by rw[h6]; exact hr) kL hc h (by omega) (bF ht) hz (bC p') (λw cs ds hl hl2 _ hp=>by
  rw[List.take_zero,List.nil_append,List.drop_eq_nil_of_le (by omega),List.append_nil]; exact hp) (bK p')
theorem Om {q:Pt} (E:TypeId) (f:Nat->Pred) (hf:∀w v,cq q w v->f 0 w v) (ht:lP P T E 2:=by exact⟨by kernel_rfl,λ_=>by kernel_rfl⟩) (yA:∀w,(zeroValue E).run P w=.ok (.agg (jo (0,0)).toArray) w:=by exactλ_=>by kernel_rfl) (h1:Has [0] G 0 x (cq q):=by exact hs) (hd:decide (d<c.N)=true:=by kernel_rfl)
  (hV:(V.all λy=>(y.slot != d&&y.id != d)&&(y.born.isNone&&y.dead.isNone))=true:=by kernel_rfl) (hG:(G.all λe=>e.slot != d)=true:=by kernel_rfl):∀a w,Inv c V [] G none_ a w ->
  bR P ops ⟨some d,.buildSlice T 1 #[(0,x)],ty,pos,aI,none⟩ a w (λa w=>∃u,True/\Inv c (iL d 2 1 true E f (.slice (some ⟨u,0,none⟩) 1 1)::V) [] (⟨none,none,d,bg (.slice (some ⟨u,0,none⟩) 1 1)⟩::G) none_ a w):=λa w ⟨β,hI⟩=>by
 have e1:a.eval x=.agg #[.int .i64 q.1,.int .i64 q.2]:=nL (h1.spec hI iS).out
 have hblk:(w.alloc (.cells #[.int .i64 q.1,.int .i64 q.2] E)).heap[w.heap.size]?=some (.cells #[.int .i64 q.1,.int .i64 q.2] E (0,0)):=heap_alloc_new _ _
 have hlt:w.heap.size<(w.alloc (.cells #[.int .i64 q.1,.int .i64 q.2] E)).heap.size:=by simp
 refine .of rfl (dg (v:=.slice (some ⟨w.heap.size,0,none⟩) 1 1) (w':=w.alloc (.cells #[.int .i64 q.1,.int .i64 q.2] E)) ?_ ⟨w.heap.size,trivial,hI.tR (R:=λB w'=>lN 2 1 true E f (.slice (some ⟨w.heap.size,0,none⟩) 1 1) B w') (Below.alloc (Below.refl _ _) (Nat.le_refl _) _) (Nat.le_refl _) hlt (λo u hu=>?_) (λM hM w2 he=>?_) (of_decide_eq_true hd) hV hG⟩)
 ·show(do pure (Next.value (<-Instr.buildSlice T 1 ((#[(0,x)]:Array (Nat×Operand)).map λ(i,x)=>(i,a.eval x))))).run P w=_
  have hu:(underlying T).run P w=.ok (.slice E) w:=run_underlying ht.under w
  have hrun:(Instr.buildSlice T 1 ((#[(0,x)]:Array (Nat×Operand)).map λ(i,x)=>(i,a.eval x))).run P w=.ok (.slice (some ⟨w.heap.size,0,none⟩) 1 1) (w.alloc (.cells #[.int .i64 q.1,.int .i64 q.2] E)):=by
   simp only[Instr.buildSlice,Sem.run_bind,hu,Result.andThen_ok,ht.size]
   rw[if_neg (by omega),if_neg (by omega)]
   simp only[Sem.run_bind,yA,Result.andThen_ok,Sem.run_pure]
   rw[show((#[(0,x)]:Array (Nat×Operand)).map λ(i,x)=>(i,a.eval x))=#[(0,.agg #[.int .i64 q.1,.int .i64 q.2])] by simp[e1]]
   have Mc:Instr.fill (λi=>some (i*2,2)) (Array.map (λx=>(Value.agg (jo (0,0)).toArray).cells[x%(Value.agg (jo (0,0)).toArray).cells.size]!) (Array.range (1*2))) (#[(0,Value.agg #[.int .i64 q.1,.int .i64 q.2])]:Array (Nat×Value)).toList=some #[.int .i64 q.1,.int .i64 q.2]:=by
    have e:Array.map (λx=>(Value.agg (jo (0,0)).toArray).cells[x%(Value.agg (jo (0,0)).toArray).cells.size]!) (Array.range (1*2))=#[.int .i64 0,.int .i64 0]:=by
     apply Array.ext
     ·simp
     ·intro k nk hk2
      simp only[Array.getElem_map,Array.getElem_range]
      have hk:k<2:=by simpa using hk2
      match k,hk with
      |0,_=>rfl
      |1,_=>rfl
    rw[e]
    rfl
   rw[Mc]
   simp only[Sem.run_bind,newRow,Sem.run_pure]
   rfl
  rw[Sem.run_bind,hrun]
  rfl
 ·simp only[World.cell?,hblk]at hu
  have hu:([Value.int .i64 q.1,.int .i64 q.2]:List Value)[o]?=some u:=by simpa using hu
  match o,hu with
  |0,hu=>injection hu with hu; rw[<-hu]; exact eZ _
  |1,hu=>injection hu with hu; rw[<-hu]; exact eZ _
 ·refine .inr ⟨w.heap.size,1,[.int .i64 q.1,.int .i64 q.2],rfl,λ_=>Iff.rfl,(he.block _ hlt λo ho=>ho.2 rfl).trans hblk,rfl,Nat.le_refl _,by unfold maxLen; omega,λu hu=>?_,λk hk=>?_⟩
  ·rcases List.mem_cons.1 hu with rfl|hu
   ·exact eZ _
   ·rw[List.mem_singleton.1 hu]; exact eZ _
  ·rw[show k=0 by omega]
   exact hf _ _ ⟨[.int .i64 q.1,.int .i64 q.2],rfl,by simp,rfl,by simp,rfl,rfl⟩
end
theorem Kl {m n:Nat} {f:Nat->Pred} (h:m=n):∀w v,bz 2 true m f w v->bz 2 true n f w v:=by subst h; exactλ_ _ h=>h
theorem GG (x y c:Pt):-1<=eH x y c/\eH x y c<=1:=by
 unfold eH
 split
 ·omega
 ·split<;>omega
def tgt (H:List Pt) (i:Nat):Pt:=if i+1<H.length then ae H (i+1)else ae H 0
variable {L H:List Pt}
theorem EB (h:zD L H) {i:Nat} (hi:i<H.length):nT L L.length (ae H i) (tgt H i)/\∃j,j<L.length/\ae L j=tgt H i:=by
 unfold tgt
 by_cases g:i+1<H.length
 ·rw[if_pos g]
  exact⟨h.qq i g,h.mem _ g⟩
 ·rw[if_neg g]
  have:=h.back
  rw[show H.length-1=i by omega]at this
  exact⟨this,h.mem 0 (by omega)⟩
theorem Dz (h:zD L H) {p:Pt} (hp:∃j,j<L.length/\ae L j=p) (hl:∀j,j<L.length->oL p (ae L j)):p=ae H 0:=by
 obtain⟨j,hj,e⟩:=hp
 obtain⟨k,hk,e2⟩:=h.mem 0 (by have:=h.two; omega)
 have h1:=h.least j hj
 have h2:=hl k hk
 rw[e]at h1
 rw[e2]at h2
 rcases h1 with h1|h1
 ·rcases h2 with h2|h2
  ·exact(dK (eM h1 h2)).elim
  ·exact h2
 ·exact h1.symm
variable {a b:Pt}
theorem Gh (h:(decide (a.1<b.1)||(decide (a.1=b.1)&&decide (a.2<b.2)))=true):eL a b:=by
 simp only[Bool.or_eq_true,Bool.and_eq_true,decide_eq_true_eq]at h
 exact h
theorem JY (h:(decide (a.1<b.1)||(decide (a.1=b.1)&&decide (a.2<b.2)))=false):oL b a:=by
 simp only[Bool.or_eq_false_iff,Bool.and_eq_false_iff,decide_eq_false_iff_not]at h
 rcases ur a b with g|g|g
 ·unfold eL at g; omega
 ·exact .inr g.symm
 ·exact .inl g
set_option maxHeartbeats 4000000 in
theorem Ko (h:zD L H):K1 Tryz.prog 21 (eC L) (eC H):=by
 intro M w0 v0 hM hv0
 have hpos:=h.pos
 have hmx:=h.max
 have KO:=h.near
 have h2:=h.two
 have hH2:=h.hmax
 have SC:∀i,i<H.length->cG 16777216 (ae H i):=λi hi=>by
  obtain⟨j,hj,e⟩:=h.mem i hi
  rw[<-e]
  exact KO j hj
 refine rY (N:=108) Tryz.func21 rfl rfl rfl hM hv0 λa hI=>?_
 refine aZ hI 1 [Uc 0 2 _] (.k .z) ⟨mv,trivial⟩ (.kk .z) λa w hI=>?_
 refine bk hI 5 [⟨3,3,some 3,none,.ptr,38,2,true,pv _,[(4,pv _)]⟩] [] [Uc 0 10 _,Uc 1 11 _,Uc 2 12 _] .z (.kk .z) ⟨mv,bw 0 hs (.const _) rfl (pt rfl) (by omega) (by kernel_rfl) (by kernel_rfl),cm hs (pt rfl) (by kernel_rfl) (bC _),tn [.i,.i],kE rfl rfl hs rfl rfl (bF (by kernel_rfl)) (bC _) (by kernel_rfl),trivial⟩ (.s .o .z) (.dm (.d .z)) λa w hI=>?_
 obtain⟨b3,hI⟩:=IU hI 0 rfl
 dsimp only[List.set]at hI
 refine au ?_
 refine bk hI 1 [] [] [Uc 0 4 _] (.k .z) (.cE .z) ⟨mv,trivial⟩ (.k .z) (.aj .z) λa w hI=>?_
 refine aF ?_
 refine sF [] [Uz 3 _,Uz 0 _,Uz 2 _] (λ(q:Nat×Pt)=>[cg 3 b3 2 (cq q.2)]) (λ(q:Nat×Pt)=>[Uz 4 (pI (q.1:Int))]) (λ(q:Nat×Pt)=>q.1<=L.length/\(∃j,j<L.length/\ae L j=q.2)/\∀j,j<q.1->oL q.2 (ae L j)) (λ(q:Nat×Pt)=>L.length-q.1) ((0,ae L 0)) ⟨Nat.zero_le _,⟨0,by omega,rfl⟩,λ_ h=>absurd h (Nat.not_lt_zero _)⟩ hI ⟨vO,trivial⟩ ⟨gi,gi,gi,gc,trivial⟩ ?_
 intro q a w hq hI
 refine au ?_
 refine bk hI 4 [] [] [Uc 0 13 _,Uc 1 14 _,Uc 2 15 _,Uc 3 16 _] (.k .z) (.aj .z) ⟨mv,mv,ln,bn,trivial⟩ (.k .z) (.aj (.dL .z)) λa w hI=>?_
 refine gA hI (λt1=>?_) (λt1=>?_)
 ·
  refine ax ?_
  refine af ?_
  refine au ?_
  refine aF ?_
  refine AZ hI [0,0,3,7,15,0,32,127,255,511,511,2047,4095,8191,511,16895,65535,131071,262143,262143,1048575,2097151,4194303,262143,8650751,33554431,67108863,134217727] [] [] [Uc 0 19 _,Uc 1 20 _,Uc 2 21 _,Uc 3 22 _,Uc 4 23 _,Uc 5 24 _,Uc 6 25 _,Uc 7 26 _,Uc 8 27 _,Uc 9 28 _,Uc 10 29 _,Uc 11 30 _,Uc 12 31 _,Uc 13 32 _,Uc 14 33 _,Uc 15 34 _,Uc 16 35 _,Uc 17 36 _,Uc 18 37 _,Uc 19 38 _,Uc 20 39 _,Uc 21 40 _,Uc 22 41 _,Uc 23 42 _,Uc 24 43 _,Uc 25 44 _,Uc 26 45 _,Uc 27 46 _] (.k .z) (.aj (.k .z)) ⟨mv,mv,bw (q.1) hs hs rfl (pt rfl) (by omega) (by kernel_rfl) (by kernel_rfl),fP 0 1 false,ld,fE 0,MO 3,bn,mv,gd λh=>iC h,gd λh=>iC h,gd λh=>bw (q.1) hg hg rfl (pg h rfl) (by omega) (by kernel_rfl) (by kernel_rfl),gd λh=>fP 0 1 false (h:=hg) (hp:=pg h rfl),gd λh=>cm hg (pg h rfl) (by kernel_rfl) (fits_int _),gd λh=>fE 0 (h:=hg) (hp:=pg h rfl),gd λh=>MO 3 (h:=hg) (hp:=pg h rfl),gd λh=>oa h,gd λh=>iC h,nj λh=>iC h,nj λh=>iC h,nj λh=>bw (q.1) hg hg rfl (pg h rfl) (by omega) (by kernel_rfl) (by kernel_rfl),nj λh=>fP 1 1 false (h:=hg) (hp:=pg h rfl),nj λh=>cm hg (pg h rfl) (by kernel_rfl) (fits_int _),nj λh=>fE 1 (h:=hg) (hp:=pg h rfl),nj λh=>Qa 3 (h:=hg) (hp:=pg h rfl),nj λh=>oa h,gd λh=>OK h,pk,trivial⟩ (.k .z) (.aj (.d8 (.d8 (.d8 (.cH (.k .z)))))) λa w hI=>?_
  refine uR hI (λt2=>?_) (λt2=>?_)
  ·
   have hlt:=Gh t2
   refine nw hI 5 [] [] [Uc 0 47 _,Uc 1 48 _,Uc 2 49 _,Uc 3 50 _] (.u none [(4,_)] .z) (.aj (.k .z)) ⟨mv,mv,bw (q.1) hs hs rfl (pt rfl) (by omega) (by kernel_rfl) (by kernel_rfl),cm hs (pt rfl) (by kernel_rfl) (bC _),GK 3,trivial⟩ (.s .o .z) (.aj (.cH (.d .z))) λa w hI=>?_
   refine aO ?_
   refine af ?_
   refine nw hI 3 [] [] [Uc 0 17 _,Uc 1 18 _,Uc 2 4 _] (.k .z) (.cE (.t 2 .z)) ⟨mv,bn,mv,trivial⟩ (.k .z) (.dx (.lO .z)) λa w hI=>?_
   refine af ?_
   exact nF ((q.1+1,ae L q.1)) ⟨by omega,⟨q.1,by omega,rfl⟩,λj hj=>if e:j=q.1 then .inr (by rw[e])else .inl (DC hlt (hq.2.2 j (by omega)))⟩ hI ⟨vO,trivial⟩ ⟨gc,gc,gc,gc,trivial⟩ (by show L.length-(q.1+1)<L.length-q.1; omega)
  ·
   have hle:=JY t2
   refine ax ?_
   refine aO ?_
   refine af ?_
   refine nw hI 3 [] [] [Uc 0 17 _,Uc 1 18 _,Uc 2 4 _] (.k .z) (.cE (.t 2 (.k .z))) ⟨mv,bn,mv,trivial⟩ (.k .z) (.dx (.dL .z)) λa w hI=>?_
   refine af ?_
   exact nF ((q.1+1,q.2)) ⟨by omega,hq.2.1,λj hj=>if e:j=q.1 then by rw[e]; exact hle else hq.2.2 j (by omega)⟩ hI ⟨vO,trivial⟩ ⟨gc,gc,gc,gc,trivial⟩ (by show L.length-(q.1+1)<L.length-q.1; omega)
 ·
  have hqn:q.1=L.length:=by omega
  have JL:q.2=ae H 0:=Dz h hq.2.1 λj hj=>hq.2.2 j (by omega)
  rw[JL]at hI
  refine bO ?_
  refine aB ?_
  refine aB ?_
  refine aR ?_
  refine af ?_
  refine ko hI 3 1 [] [] [Uc 0 51 _] (.k .z) (.aj (.k .z)) ⟨my 3,trivial⟩ (.k .z) (.dx (.dk .z)) (⟨_,Om 38 (λi=>cq (ae H i)) (λ_ _ h=>h),⟨_,Q6 λu hu=>RR [] [] [Uc 0 5 _] (.k (.k .z)) (.aj (.k .z)) (mv) (.k (.k .z)) (.xY (.dk .z)),rfl⟩⟩) λa w hI=>?_
  obtain⟨u,hu,hI⟩:=hI
  refine aF ?_
  refine sF [] [Uz 3 _,Uz 0 _] (λ(x:Nat×Option Addr×Nat)=>[(iL 52 2 (x.1+1) true 38 (λi=>cq (ae H i)) (.slice x.2.1 (x.1+1) x.2.2)),cg 3 b3 2 (cq (ae H x.1))]) (λ(x:Nat×Option Addr×Nat)=>[Uz 5 (bg (.slice x.2.1 (x.1+1) x.2.2))]) (λ(x:Nat×Option Addr×Nat)=>x.1<H.length) (λ(x:Nat×Option Addr×Nat)=>H.length-x.1) ((0,some ⟨u,0,none⟩,1)) (show 0<H.length by omega) hI ⟨AW,vO,trivial⟩ ⟨gi,gi,gc,trivial⟩ ?_
  intro x a w hx hI
  have KN:=SC x.1 hx
  obtain⟨he,hmem⟩:=EB h hx
  refine aF ?_
  refine bk hI 4 [⟨6,6,some 1,none,.ptr,38,2,true,pv _,[(2,pv _)]⟩] [] [Uc 0 53 _,Uc 3 7 _] (.k (.k .z)) (.cE .z) ⟨my 3,tn [.i,.i],kE rfl rfl hs rfl rfl (bF (by kernel_rfl)) (bC _) (by kernel_rfl),mv,trivial⟩ (.k (.k (.s .o .z))) (.dx (.k .z)) λa w hI=>?_
  obtain⟨b6,hI⟩:=IU hI 2 rfl
  dsimp only[List.set]at hI
  refine au ?_
  refine bk hI 1 [] [] [Uc 0 8 _] (.k (.k (.k .z))) (.aj (.k .z)) ⟨mv,trivial⟩ (.k (.k (.k .z))) (.aj (.kk .z)) λa w hI=>?_
  refine aF ?_
  refine sF [iL 52 2 _ true 38 (λi=>cq (ae H i)) _,cg 3 b3 2 _] [Uz 6 _,Uz 3 _,Uz 0 _,Uz 5 _] (λ(y:Nat×Pt×Bool)=>[cg 6 b6 2 (cq y.2.1)]) (λ(y:Nat×Pt×Bool)=>[Uz 8 (pI (y.1:Int)),Uz 7 (pB y.2.2)]) (λ(y:Nat×Pt×Bool)=>y.1<=L.length/\Fj L (ae H x.1) (tgt H x.1) y.1 y.2.1 y.2.2/\cG 16777216 y.2.1) (λ(y:Nat×Pt×Bool)=>L.length-y.1) ((0,ae H x.1,false)) ⟨Nat.zero_le _,Ng,KN⟩ hI ⟨AW,vO,vO,trivial⟩ ⟨gi,gi,gi,gi,gc,gc,trivial⟩ ?_
  intro y a w hy hI
  refine au ?_
  refine bk hI 4 [] [] [Uc 0 54 _,Uc 1 55 _,Uc 2 56 _,Uc 3 57 _] (.k (.k (.k .z))) (.aj (.kk .z)) ⟨mv,mv,ln,bn,trivial⟩ (.k (.k (.k .z))) (.aj (.dm (.dk .z))) λa w hI=>?_
  refine gA hI (λt3=>?_) (λt3=>?_)
  ·
   refine ax ?_
   refine af ?_
   refine au ?_
   refine aF ?_
   refine au ?_
   refine AZ hI [0,0,3,7,0,31] [] [] [Uc 0 60 _,Uc 1 61 _,Uc 2 62 _,Uc 3 63 _,Uc 4 64 _,Uc 5 65 _] (.k (.k (.k .z))) (.aj (.cE .z)) ⟨mv,mv,bw (y.1) hs hs rfl (pt rfl) (by omega) (by kernel_rfl) (by kernel_rfl),cm hs (pt rfl) (by kernel_rfl) (bC _),my 3,Nq,trivial⟩ (.k (.k (.k .z))) (.aj (.dm (.cH (.k .z)))) λa w hI=>?_
   refine gA hI (λt4=>?_) (λt4=>?_)
   ·
    refine bO ?_
    refine aB ?_
    refine aR ?_
    refine af ?_
    refine nw hI 3 [] [] [Uc 0 58 _,Uc 1 59 _,Uc 2 8 _] (.k (.k (.k .z))) (.aj (.t 2 (.kk .z))) ⟨mv,bn,mv,trivial⟩ (.k (.k (.k .z))) (.aj (.xX (.dk .z))) λa w hI=>?_
    refine af ?_
    exact nF ((y.1+1,y.2.1,y.2.2)) ⟨by omega,EK he.1 hy.2.1 t4,hy.2.2⟩ hI ⟨AW,vO,vO,trivial⟩ ⟨gc,gc,gc,gc,gc,gc,trivial⟩ (by show L.length-(y.1+1)<L.length-y.1; omega)
   ·
    refine ax ?_
    refine af ?_
    refine bk hI 1 [] [] [Uc 0 9 _] (.k (.k (.k .z))) (.aj (.cE .z)) ⟨mv,trivial⟩ (.k (.k (.k .z))) (.aj (.gX .z)) λa w hI=>?_
    refine au ?_
    refine bk hI 1 [] [] [Uc 0 66 _] (.k (.k (.k .z))) (.aj (.cE .z)) ⟨mv,trivial⟩ (.k (.k (.k .z))) (.k8 .z) λa w hI=>?_
    refine uR hI (λt5=>?_) (λt5=>?_)
    ·
     have hsd:=GG (ae H x.1) y.2.1 (ae L y.1)
     refine NS hI [0,0,0,0,12,28,63,127,255] [] [] [Uc 0 67 _,Uc 1 68 _,Uc 2 69 _,Uc 3 70 _,Uc 4 71 _,Uc 5 72 _,Uc 6 73 _,Uc 7 74 _,Uc 8 9 _] (.k (.k (.k .z))) (.aj (.kk (.t 8 (.k .z)))) ⟨my 3,my 6,mv,mv,bw (y.1) hs hs rfl (pt rfl) (by omega) (by kernel_rfl) (by kernel_rfl),cm hs (pt rfl) (by kernel_rfl) (bC _),Ln Ek (hφ:=⟨KN,hy.2.2,KO _ (by omega)⟩),ng,mv,trivial⟩ (.k (.k (.k .z))) (.aj (.dm (.d8 (.k .z)))) λa w hI=>?_
     refine af ?_
     refine AZ hI [0,1,3,7,15,31,63,63,63,447,959,2047,63,63,16383,32767,65535,131071] [] [] [Uc 0 75 _,Uc 1 76 _,Uc 2 77 _,Uc 3 78 _,Uc 4 79 _,Uc 5 80 _,Uc 6 81 _,Uc 7 82 _,Uc 8 83 _,Uc 9 84 _,Uc 10 85 _,Uc 11 86 _,Uc 12 87 _,Uc 13 88 _,Uc 14 89 _,Uc 15 90 _,Uc 16 91 _,Uc 17 92 _] (.k (.k (.k .z))) (.aj (.cE .z)) ⟨mv,bn,mv,gd λh=>iC h,gd λh=>oa h,gd λh=>iC h,nj λh=>my 3 (h:=hg) (hp:=pg h rfl),nj λh=>iC h,nj λh=>iC h,nj λh=>bw (y.1) hg hg rfl (pg h rfl) (by omega) (by kernel_rfl) (by kernel_rfl),nj λh=>cm hg (pg h rfl) (by kernel_rfl) (bC _),nj λh=>ye h AM (hφ:=⟨KN,KO _ (by omega)⟩),nj λh=>my 3 (h:=hg) (hp:=pg h rfl),nj λh=>my 6 (h:=hg) (hp:=pg h rfl),nj λh=>ye h AM (hφ:=⟨KN,hy.2.2⟩),nj λh=>oa h,gd λh=>OK h,pk,trivial⟩ (.k (.k (.k .z))) (.aj (.dm (.d8 (.d8 (.k .z))))) λa w hI=>?_
     refine uR hI (λt6=>?_) (λt6=>?_)
     ·
      have hnew:=A8 he hy.2.1 (by omega) t4 (by rw[t5]; exact t6)
      refine bk hI 5 [] [] [Uc 0 93 _,Uc 1 94 _,Uc 2 95 _,Uc 3 96 _] (.k (.k (.u none [(4,_)] .z))) (.aj (.cE .z)) ⟨mv,mv,bw (y.1) hs hs rfl (pt rfl) (by omega) (by kernel_rfl) (by kernel_rfl),cm hs (pt rfl) (by kernel_rfl) (bC _),GK 6,trivial⟩ (.k (.k (.s .o .z))) (.aj (.fF (.Np .z))) λa w hI=>?_
      refine nw hI 1 [] [] [Uc 0 7 _] (.k (.k (.k .z))) (.aj (.k .z)) ⟨mv,trivial⟩ (.k (.k (.k .z))) (.aj (.kk .z)) λa w hI=>?_
      refine aO ?_
      refine af ?_
      refine nw hI 3 [] [] [Uc 0 58 _,Uc 1 59 _,Uc 2 8 _] (.k (.k (.k .z))) (.aj (.t 2 (.k .z))) ⟨mv,bn,mv,trivial⟩ (.k (.k (.k .z))) (.aj (.xX (.k .z))) λa w hI=>?_
      refine af ?_
      exact nF ((y.1+1,ae L y.1,true)) ⟨by omega,hnew,KO _ (by omega)⟩ hI ⟨AW,vO,vO,trivial⟩ ⟨gc,gc,gc,gc,gc,gc,trivial⟩ (by show L.length-(y.1+1)<L.length-y.1; omega)
     ·
      have hnew:=EJ he hy.2.1 (by omega) (by rw[t5]; exact t6)
      refine ax ?_
      refine aO ?_
      refine af ?_
      refine nw hI 3 [] [] [Uc 0 58 _,Uc 1 59 _,Uc 2 8 _] (.k (.k (.k .z))) (.aj (.t 2 (.kk .z))) ⟨mv,bn,mv,trivial⟩ (.k (.k (.k .z))) (.aj (.xX (.dk .z))) λa w hI=>?_
      refine af ?_
      exact nF ((y.1+1,y.2.1,y.2.2)) ⟨by omega,hnew,hy.2.2⟩ hI ⟨AW,vO,vO,trivial⟩ ⟨gc,gc,gc,gc,gc,gc,trivial⟩ (by show L.length-(y.1+1)<L.length-y.1; omega)
    ·
     refine ax ?_
     refine af ?_
     refine AZ hI [0,1,3,7,15,31,63,63,63,447,959,2047,63,63,16383,32767,65535,131071] [] [] [Uc 0 75 _,Uc 1 76 _,Uc 2 77 _,Uc 3 78 _,Uc 4 79 _,Uc 5 80 _,Uc 6 81 _,Uc 7 82 _,Uc 8 83 _,Uc 9 84 _,Uc 10 85 _,Uc 11 86 _,Uc 12 87 _,Uc 13 88 _,Uc 14 89 _,Uc 15 90 _,Uc 16 91 _,Uc 17 92 _] (.k (.k (.k .z))) (.k8 .z) ⟨mv,bn,mv,gd λh=>iC h,gd λh=>oa h,gd λh=>iC h,nj λh=>my 3 (h:=hg) (hp:=pg h rfl),nj λh=>iC h,nj λh=>iC h,nj λh=>bw (y.1) hg hg rfl (pg h rfl) (by omega) (by kernel_rfl) (by kernel_rfl),nj λh=>cm hg (pg h rfl) (by kernel_rfl) (bC _),nj λh=>ye h AM (hφ:=⟨KN,KO _ (by omega)⟩),nj λh=>my 3 (h:=hg) (hp:=pg h rfl),nj λh=>my 6 (h:=hg) (hp:=pg h rfl),nj λh=>ye h AM (hφ:=⟨KN,hy.2.2⟩),nj λh=>oa h,gd λh=>OK h,pk,trivial⟩ (.k (.k (.k .z))) (.aj (.dm (.d8 (.d8 (.dk .z))))) λa w hI=>?_
     refine uR hI (λt7=>?_) (λt7=>?_)
     ·
      have hnew:=A8 he hy.2.1 (by omega) t4 (by rw[t5]; exact t7)
      refine bk hI 5 [] [] [Uc 0 93 _,Uc 1 94 _,Uc 2 95 _,Uc 3 96 _] (.k (.k (.u none [(4,_)] .z))) (.aj (.cE .z)) ⟨mv,mv,bw (y.1) hs hs rfl (pt rfl) (by omega) (by kernel_rfl) (by kernel_rfl),cm hs (pt rfl) (by kernel_rfl) (bC _),GK 6,trivial⟩ (.k (.k (.s .o .z))) (.aj (.fF (.Np .z))) λa w hI=>?_
      refine nw hI 1 [] [] [Uc 0 7 _] (.k (.k (.k .z))) (.aj (.k .z)) ⟨mv,trivial⟩ (.k (.k (.k .z))) (.aj (.kk .z)) λa w hI=>?_
      refine aO ?_
      refine af ?_
      refine nw hI 3 [] [] [Uc 0 58 _,Uc 1 59 _,Uc 2 8 _] (.k (.k (.k .z))) (.aj (.t 2 (.k .z))) ⟨mv,bn,mv,trivial⟩ (.k (.k (.k .z))) (.aj (.xX (.k .z))) λa w hI=>?_
      refine af ?_
      exact nF ((y.1+1,ae L y.1,true)) ⟨by omega,hnew,KO _ (by omega)⟩ hI ⟨AW,vO,vO,trivial⟩ ⟨gc,gc,gc,gc,gc,gc,trivial⟩ (by show L.length-(y.1+1)<L.length-y.1; omega)
     ·
      have hnew:=EJ he hy.2.1 (by omega) (by rw[t5]; exact t7)
      refine ax ?_
      refine aO ?_
      refine af ?_
      refine nw hI 3 [] [] [Uc 0 58 _,Uc 1 59 _,Uc 2 8 _] (.k (.k (.k .z))) (.aj (.t 2 (.kk .z))) ⟨mv,bn,mv,trivial⟩ (.k (.k (.k .z))) (.aj (.xX (.dk .z))) λa w hI=>?_
      refine af ?_
      exact nF ((y.1+1,y.2.1,y.2.2)) ⟨by omega,hnew,hy.2.2⟩ hI ⟨AW,vO,vO,trivial⟩ ⟨gc,gc,gc,gc,gc,gc,trivial⟩ (by show L.length-(y.1+1)<L.length-y.1; omega)
  ·
   obtain⟨jm,Ml,Sr⟩:=hmem
   have hz:=(hy.2.1.hit jm (by omega) Sr).1
   rw[hz]at hI
   refine bO ?_
   refine aB ?_
   refine aB ?_
   refine aR ?_
   refine af ?_
   refine au ?_
   refine AZ hI [0,0,2,6,15] [] [] [Uc 0 97 _,Uc 1 98 _,Uc 2 99 _,Uc 3 100 _,Uc 4 101 _] (.k (.k (.k .z))) (.aj (.cE .z)) ⟨my 6,mv,ML 52 0 (hy:=.const _),MN 52 (hn:=bK _),Nq,trivial⟩ (.k (.k (.k .z))) (.aj (.cH (.dL .z))) λa w hI=>?_
   refine gA hI (λt8=>?_) (λt8=>?_)
   ·
    have FW:x.1+1=H.length:=by
     rcases Nat.lt_or_ge (x.1+1) H.length with g|g
     ·have e:tgt H x.1=ae H (x.1+1):=if_pos g
      rw[e]at t8
      exact absurd t8 (h.rest _ (by omega) g)
     ·omega
    have hI:=uE hI 0 5 rfl (by kernel_rfl)
    dsimp only[List.eraseIdx]at hI
    refine bk hI 2 [] [] [Uc 0 102 _,Uc 1 2 _] (.k (.k .z)) (.aj (.kk .z)) ⟨mv,mv,trivial⟩ (.k (.k .z)) (.aj (.oK .z)) λa w hI=>?_
    refine aH ?_
    refine aC ?_
    refine aP ?_
    refine aC ?_
    refine aP ?_
    exact cT hI rfl (fR (hq:=Kl FW))
   ·
    have FW:x.1+1<H.length:=by
     rcases Nat.lt_or_ge (x.1+1) H.length with g|g
     ·exact g
     ·exact absurd (if_neg (by omega)) t8
    rw[show tgt H x.1=ae H (x.1+1)from if_pos FW]at hI
    refine ax ?_
    refine af ?_
    refine ko hI 5 3 [] [] [Uc 0 103 _,Uc 1 104 _,Uc 2 105 _] (.k (.k (.k .z))) (.aj (.k .z)) ⟨mv,my 6,QW 38,trivial⟩ (.k (.k (.k .z))) (.dx (.Lr .z)) (⟨_,Lf (n0:=0) (λi=>cq (ae H i)) (Fq (λ_ _ h=>h)) (hnf:=λ_=>bK _) (hnp:=bK _) (hfit:=bC _),⟨_,Q6 λs' hs'=>RR [] [] [Uc 0 5 _] (.k (.k (.k .z))) (.aj (.kk .z)) (mv) (.k (.k (.k .z))) (.xY (.lO .z)),rfl⟩⟩) λa w hI=>?_
    obtain⟨s',hs',hI⟩:=hI
    obtain⟨X',cap',rfl,hcap⟩:=qE hI 0 rfl
    refine nw hI 2 [] [] [Uc 0 107 _] (.k (.u none [(1,_)] (.k .z))) (.aj .z) ⟨my 6,GK 3,trivial⟩ (.k (.s .o (.k .z))) (.xY (.d .z)) λa w hI=>?_
    refine aO ?_
    refine af ?_
    exact nF ((x.1+1,X',cap')) FW hI ⟨AW,vO,trivial⟩ ⟨gc,gc,gc,trivial⟩ (by show H.length-(x.1+1)<H.length-x.1; omega)
end Wx
