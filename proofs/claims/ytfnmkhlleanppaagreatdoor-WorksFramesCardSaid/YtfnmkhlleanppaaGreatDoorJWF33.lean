import Derived.Test.YtfnmkhlleanppaaGreatDoorCWFWk5
namespace Wx
set_option maxRecDepth 100000
set_option maxHeartbeats 1000000
open Go Go.RowKit Go.Proofs
set_option linter.unusedVariables false
attribute [local irreducible] OpOk
def iR (n m:Nat) (f g:Nat->ByteArray):Bool:=decide (n=m)&&decide (∀k,k<n->f k=g k)
theorem sQ (n:Nat) (f:Nat->ByteArray):iR n n f f=true:=by
 unfold iR
 rw[decide_eq_true rfl,decide_eq_true λ_ _=>rfl]; rfl
variable {n m:Nat} {f g:Nat->ByteArray}
theorem vz (h:(n:Int)≠m):false=iR n m f g:=by unfold iR; rw[decide_eq_false (by omega)]; rfl
theorem xI {i:Nat} (hi:i<n) (h:f i≠g i):false=iR n m f g:=by
 unfold iR
 rw[decide_eq_false (p:=∀k,k<n->f k=g k) (λk=>h (k i hi)),Bool.and_false]
theorem vB (hn:¬(n:Int)≠m) (h:∀k,k<n->f k=g k):true=iR n m f g:=by
 unfold iR
 rw[decide_eq_true (show n=m by omega),decide_eq_true h]; rfl
theorem Aw (h:n<=1000000000):K2 Tryz.prog 14 (az 1 false n λk=>pT (f k)) (az 1 false m λk=>pT (g k)) (pB (iR n m f g)):=by
 intro M w0 v0 v1 hM hv0 dc
 refine ia (N:=26) Tryz.func14 rfl rfl rfl hM hv0 dc λa hI=>?_
 refine au hI 1 [Uc 0 4 _] (.kk .z) ⟨mv,trivial⟩ (.aP .z) λa w hI=>?_
 refine ah ?_
 refine au hI 5 [Uc 0 6 _,Uc 1 7 _,Uc 2 8 _,Uc 3 9 _,Uc 4 10 _] (.aP .z) ⟨mv,ln,mv,ln,bn,trivial⟩ (.bq (.bV .z)) λa w hI=>?_
 refine jy hI (λt1=>?_) (λt1=>?_)
 ·
  refine au hI 1 [Uc 0 4 _] (.kk (.t 0 (.k .z))) ⟨mv,trivial⟩ (.cg (.k .z)) λa w hI=>?_
  refine aA ?_
  refine aE ?_
  exact cu hI rfl (cC (hq:=eL (vz t1)))
 ·
  refine av ?_
  refine af ?_
  refine ah ?_
  refine au hI 3 [Uc 0 11 _,Uc 1 12 _,Uc 2 13 _] (.ae .z) ⟨mv,ln,mv,trivial⟩ (.bq (.td .z)) λa w hI=>?_
  refine aI ?_
  refine qF [] [Uz 0 _,Uz 1 _,Uz 12 _] (λ(i:Nat)=>[]) (λ(i:Nat)=>[Uz 13 (pI (i:Int))]) (λ(i:Nat)=>i<=n/\∀k,k<i->f k=g k) (λ(i:Nat)=>n-i) (0) ⟨Nat.zero_le _,λ_ h=>absurd h (Nat.not_lt_zero _)⟩ hI trivial ⟨gi,gi,gi,gc,trivial⟩ ?_
  intro i a w hp hI
  refine au hI 1 [Uc 0 14 _] (.ae .z) ⟨bn,trivial⟩ (.ae (.k .z)) λa w hI=>?_
  refine ah ?_
  refine jy hI (λt2=>?_) (λt2=>?_)
  ·
   refine av ?_
   refine af ?_
   refine ah ?_
   refine aI ?_
   refine au hI 2 [Uc 0 15 _,Uc 1 5 _] (.ae (.k .z)) ⟨mv,mv,trivial⟩ (.ae (.fh .z)) λa w hI=>?_
   refine CY hI [0,0,3,7,0,0,48,112,255] [Uc 0 16 _,Uc 1 17 _,Uc 2 18 _,Uc 3 19 _,Uc 4 20 _,Uc 5 21 _,Uc 6 22 _,Uc 7 23 _,Uc 8 24 _] (.ae (.k .z)) ⟨mv,mv,ix,aH hs (pt rfl) (by kernel_rfl) (aT _),mv,mv,ix,aH hs (pt rfl) (by kernel_rfl) (aT _),bU,trivial⟩ (.ae (.d8 (.dk .z))) λa w hI=>?_
   refine jy hI (λt3=>?_) (λt3=>?_)
   ·
    refine au hI 1 [Uc 0 4 _] (.ae (.k .z)) ⟨mv,trivial⟩ (.ae (.dk .z)) λa w hI=>?_
    refine aA ?_
    refine bJ ?_
    refine aE ?_
    refine aE ?_
    refine bJ ?_
    refine aE ?_
    exact cu hI rfl (cC (hq:=eL (xI (i:=i) (by omega) t3)))
   ·
    refine av ?_
    refine bF ?_
    refine af ?_
    refine jD hI 2 [Uc 0 25 _,Uc 1 13 _] (.aP (.t 1 (.k .z))) ⟨bn,mv,trivial⟩ (.bq (.fh .z)) λa w hI=>?_
    refine af ?_
    have hst:f i=g i:=Decidable.not_not.1 t3
    exact pq (i+1) ⟨by omega,λk hk=>if e:k=i then by rw[e]; exact hst else hp.2 k (by omega)⟩ hI trivial ⟨gc,gc,gc,gc,trivial⟩ (by omega)
  ·
   refine bZ ?_
   refine aB ?_
   refine aB ?_
   refine aW ?_
   refine af ?_
   refine au hI 1 [Uc 0 4 _] (.ae (.k .z)) ⟨mv,trivial⟩ (.bN (.dk .z)) λa w hI=>?_
   refine aA ?_
   exact cu hI rfl (cC (hq:=eL (vB t1 λk hk=>hp.2 k (by omega))))
theorem zF (b:ByteArray):rU b<=b.size:=by
 have key:∀f q,rT b f q<=q+f:=by
  intro f
  induction f with
  |zero=>intro q; exact Nat.le_refl _
  |succ f ih=>
   intro q
   unfold rT
   split
   ·have:=ih (q+1); omega
   ·omega
 have:=key b.size 0
 unfold rU
 omega
theorem vI {x:Int} {s b:ByteArray} (h:J0 Tryz.prog 7 (pB true)):J3 Tryz.prog 3 (dn x) (pT s) (fl b) (pB true):=by
 intro M w0 v0 v1 v2 hM hG hv0 dc hv2
 have hG:=eP hG
 refine EK (N:=76) Tryz.func3 rfl rfl rfl hM hv0 dc hv2 λa hI=>?_
 refine au hI 1 [Uc 0 6 _] (.aP .z) ⟨mv,trivial⟩ (.ae .z) λa w hI=>?_
 refine ah ?_
 refine au hI 8 [Uc 0 15 _,Uc 1 16 _,Uc 2 17 _,Uc 3 18 _,Uc 4 19 _,Uc 5 20 _,Uc 6 21 _,Uc 7 22 _] (.ae .z) ⟨mv,oz,bn,mv,gd λh=>er h,gd λh=>EW h,gd λh=>lM h,pk,trivial⟩ (.ae (.bN (.bV .z))) λa w hI=>?_
 refine tu hI (λt1=>?_) (λt1=>?_)
 ·
  refine au hI 2 [Uc 0 23 _,Uc 1 6 _] (.aP (.t 1 (.k .z))) ⟨ER hG (λ_:True=>h),mv,trivial⟩ (.bq (.fh .z)) λa w hI=>?_
  refine aA ?_
  refine aE ?_
  exact cu hI rfl (cC (hq:=λ_ _ h=>h))
 ·
  refine av ?_
  refine af ?_
  have hz:s.size<=300/\b.size<=700:=by
   simp only[Bool.or_eq_false_iff,decide_eq_false_iff_not]at t1
   omega
  have hz1:=hz.1
  have hz2:=hz.2
  have hz3:=zF b
  refine au hI 7 [Uc 0 25 _,Uc 1 26 _,Uc 2 24 _,Uc 3 27 _,Uc 4 28 _,Uc 5 7 _,Uc 6 8 _] (.ae (.k .z)) ⟨mv,wq hG qW,mv,ext,ext,mv,mv,trivial⟩ (.ae (.bN (.pO .z))) λa w hI=>?_
  refine au hI 7 [Uc 0 30 _,Uc 1 31 _,Uc 2 29 _,Uc 3 32 _,Uc 4 33 _,Uc 5 9 _,Uc 6 10 _] (.ae (.kk .z)) ⟨mv,oZ rC,mv,ext,ext,mv,mv,trivial⟩ (.ae (.cg (.bV (.k .z)))) λa w hI=>?_
  refine au hI 7 [Uc 0 35 _,Uc 1 36 _,Uc 2 34 _,Uc 3 37 _,Uc 4 38 _,Uc 5 11 _,Uc 6 12 _] (.k8 .z) ⟨mv,wq hG Aj,mv,ext,ext,mv,mv,trivial⟩ (.k8 (.bN (.td .z))) λa w hI=>?_
  refine au hI 7 [Uc 0 40 _,Uc 1 41 _,Uc 2 39 _,Uc 3 42 _,Uc 4 43 _,Uc 5 13 _,Uc 6 14 _] (.k8 (.kk .z)) ⟨mv,oZ A5,mv,ext,ext,mv,mv,trivial⟩ (.bQ (.ae (.cg (.bV (.k .z))))) λa w hI=>?_
  refine au hI 33 [Uc 0 44 _,Uc 1 45 _,Uc 2 46 _,Uc 3 47 _,Uc 4 48 _,Uc 5 49 _,Uc 6 50 _,Uc 7 51 _,Uc 8 52 _,Uc 9 53 _,Uc 10 54 _,Uc 11 55 _,Uc 12 56 _,Uc 13 57 _,Uc 14 58 _,Uc 15 59 _,Uc 16 60 _,Uc 17 61 _,Uc 18 62 _,Uc 19 63 _,Uc 20 64 _,Uc 21 65 _,Uc 22 66 _,Uc 23 67 _,Uc 24 68 _,Uc 25 69 _,Uc 26 70 _,Uc 27 71 _,Uc 28 72 _,Uc 29 73 _,Uc 30 74 _,Uc 31 75 _,Uc 32 6 _] (.kk (.t 32 (.k8 .z))) ⟨mv,mv,mH qX,mv,mv,mH yY,bn,mv,gd λh=>er h,gd λh=>er h,gd λh=>lM h,pk,mv,gd λh=>er h,gd λh=>yg (h:=hg) (hp:=pg h rfl),gd λh=>er h,gd λh=>yg (h:=hg) (hp:=pg h rfl),gd λh=>C5 h,pk,mv,gd λh=>er h,gd λh=>er h,gd λh=>pU h Aw,pk,mv,gd λh=>er h,gd λh=>er h,gd λh=>lM h,pk,mv,gd λh=>(λ_=>ER hG (λ_:True=>‹J0 _ _ _›) (hp:=pg (by assumption) rfl)) h,pk,mv,trivial⟩ (.d8 (.d8 (.d8 (.d8 (.d8 (.bV .z)))))) λa w hI=>?_
  refine aA ?_
  exact cu hI rfl (cC (hq:=eL (by simp[sQ])))
end Wx

namespace Wx
open Go Go.RowKit
section
variable {P:Program} {c:bO} {V:List Vr} {A:List Al} {G:List aK} {a:Act} {w:World} {o:Oper}{d:Nat} {x:Operand} {ty:TypeId} {pos:String} {ax:Array Edge}
theorem aS.mW {β:Nat->Nat->Prop} {id s n0:Nat} {H H':List Bk} {v:Value} {w':World} {B':Nat->Prop} (hI:aS c V [] G none_ β a w) (hk:V[n0]?=some (aQ id s H)) (hle:cY (β id) w w') (Bj:∀k,B' k->β id k\/w.heap.size<=k) (ud:bR B' w' H') (hd:d<c.N)
  (hV:(V.all λy=>(y.slot != d)&&(y.born.isNone&&y.dead.isNone))=true) (hu:(V.filter λy=>y.id==id).length=1) (hG:(G.all λe=>e.slot != d)=true):
  Inv c (V.set n0 (aQ id s H')) [] (⟨none,none,d,aL v⟩::G) none_ (a.put (some d) v) w':=by
 have hx:=List.mem_of_getElem? hk
 have hV:∀y,y∈V->y.slot≠d/\live none_ y=true:=λy hy=>by
  rw[List.all_eq_true]at hV
  have:=hV y hy
  simp only[Bool.and_eq_true,bne_iff_ne]at this
  refine⟨this.1,?_⟩
  unfold live
  cases hb:y.born with
  |some j=>rw[hb]at this; cases this.2.1
  |none=>cases hd:y.dead with
   |some j=>rw[hd]at this; cases this.2.2
   |none=>rfl
 have hG:∀e,e∈G->e.slot≠d:=λe he=>by
  rw[List.all_eq_true]at hG
  simpa using hG e he
 have zU:n0<V.length:=by
  rcases Nat.lt_or_ge n0 V.length with h'|h'
  ·exact h'
  ·rw[List.getElem?_eq_none h']at hk; cases hk
 have Ad:live none_ (aQ id s H)=true:=rfl
 have hsub:∀y,y∈V.set n0 (aQ id s H')->y=aQ id s H'\/(y∈V/\y.id≠id):=λy hy=>by
  obtain⟨j,hj⟩:=List.mem_iff_getElem?.1 hy
  by_cases Cc:j=n0
  ·subst Cc
   rw[List.getElem?_set_self zU]at hj
   exact .inl (Option.some.inj hj).symm
  ·rw[List.getElem?_set_ne (Ne.symm Cc)]at hj
   have dy:=List.mem_of_getElem? hj
   by_cases hid:y.id=id
   ·exfalso
    have e:=bP hu dy hx (by simpa using hid) (by simp)
    subst e
    have h2:((V.filter λy=>y.id==id).length)>=2:=by
     have kT:[aQ id s H,aQ id s H].Sublist V:=by
      rcases Nat.lt_or_ge j n0 with hlt|hge
      ·exact iP hj hk hlt
      ·exact iP hk hj (by omega)
     have:=(kT.filter λy=>y.id==id).length_le
     simpa using this
    omega
   ·exact .inr ⟨dy,hid⟩
 let β':Nat->Nat->Prop:=λq=>if q=id then B' else β q
 have bx:β' id=B':=if_pos rfl
 have bo:∀y:Vr,y.id≠id->β' y.id=β y.id:=λy hy=>if_neg hy
 have hB:∀k,β id k->mine c k/\k<w.heap.size/\∀o v,w.cell? ⟨k,o,none⟩=some v->dx v:=λk hk'=>iU hI hx Ad hk'
 have ob:∀k j,β id k->own c V none_ β k j:=λk j hk'=>.inr ⟨_,hx,Ad,hk',Nat.zero_le _⟩
 have e3:Ext (own c V none_ β) w w':=Ext.iO hle λk j _ hk'=>ob k j hk'
 have hown:∀k j,k<w.heap.size->own c (V.set n0 (aQ id s H')) none_ β' k j->own c V none_ β k j:=by
  rintro k' j hk' (h1|⟨y,hy,h1,h2,h3⟩)
  ·exact .inl h1
  ·rcases hsub y hy with rfl|⟨dy,h4⟩
   ·have h2:β' id k':=h2
    rw[bx]at h2
    exact(Bj k' h2).elim (ob k' j) λe=>by omega
   ·rw[bo y h4]at h2
    exact .inr ⟨y,dy,h1,h2,h3⟩
 have je:da (own c (V.set n0 (aQ id s H')) none_ β') w':=by
  rintro k j hk'
  by_cases Dc:B' k
  ·exact⟨(ud.mY Dc).1,λu hu=>(ud.mY Dc).2 j u hu⟩
  ·have:own c V none_ β k j/\¬β id k\/own c V none_ β k j/\β id k/\k<w.heap.size:=by
    rcases hk' with h1|⟨y,hy,h1,h2,h3⟩
    ·by_cases hb:β id k
     ·exact .inr ⟨.inl h1,hb,(hB k hb).2.1⟩
     ·exact .inl ⟨.inl h1,hb⟩
    ·rcases hsub y hy with rfl|⟨dy,h4⟩
     ·have h2:β' id k:=h2
      rw[bx]at h2
      exact absurd h2 Dc
     ·rw[bo y h4]at h2
      exact .inl ⟨.inr ⟨y,dy,h1,h2,h3⟩,λhb=>hI.apart y _ k dy hx (hV y dy).2 Ad h4 h2 hb⟩
   rcases this with⟨h1,h2⟩|⟨h1,h2,h3⟩
   ·obtain⟨h5,h6⟩:=aM hI k j h1
    refine⟨Nat.lt_of_lt_of_le h5 hle.size,λu dR=>h6 u ?_⟩
    rw[World.cell?_of_block (w:=w) (a:=⟨k,j,none⟩) (hle.block k h5 h2)]at dR
    exact dR
   ·rcases hk' with h4|⟨y,hy,h4,h5,h6⟩
    ·exact absurd ((hI.old k j h4).1) (by
      rintro⟨h7,h8⟩
      rcases (hB k h2).1 with h9|h9
      ·omega
      ·exact h8 h9)
    ·rcases hsub y hy with rfl|⟨dy,h7⟩
     ·have h5:β' id k:=h5
      rw[bx]at h5
      exact absurd h5 Dc
     ·rw[bo y h7]at h5
      exact absurd h2 (hI.apart y _ k dy hx (hV y dy).2 Ad h7 h5)
 have sd:∀v s,s≠d->sl (a.put (some d) v) s=sl a s:=λv s hs=>bk λe=>hs (Option.some.inj e).symm
 refine⟨β',by rw[dw]; exact hI.size,by rw[put_defers]; exact hI.defers,⟨hle.os.trans hI.below.os,hle.tape.trans hI.below.tape,hle.output.trans hI.below.output,Nat.le_trans hI.below.size hle.size,λk hk' hn=>?_⟩,hI.fM λk hk' hn=>?_,λy hy _=>?_,λy z g hy hz _ _ hne=>?_,(λp hp=>by cases hp),λe he pY hf'=>?_⟩
 ·rw[hle.block k (Nat.lt_of_lt_of_le hk' hI.below.size) λhb=>(hB k hb).1.elim (λh3=>by omega) (λh3=>hn h3)]
  exact hI.below.block k hk' hn
 ·exact hle.block k (Nat.lt_of_lt_of_le hk' hI.below.size) λhb=>(hB k hb).1.elim (λh3=>by omega) (λh3=>hn h3)
 ·rcases hsub y hy with rfl|⟨dy,h4⟩
  ·refine(aR rfl).2 ?_
   show lF _ c none_ _ w' _ (β' id)
   rw[bx]
   refine⟨λk hk'=>⟨?_,(ud.mY hk').1,λo v hv=>(ud.mY hk').2 o v hv⟩,ud.box je⟩
   exact(Bj k hk').elim (λhk'=>(hB k hk').1) λe=>.inl (Nat.le_trans hI.below.size e)
  ·have uk:∀g,β y.id g->¬β id g:=λg hg=>hI.apart y _ g dy hx (hV y dy).2 Ad h4 hg
   exact(hI.var y dy (hV y dy).2).keep (sd _ _ (hV y dy).1) (bo y h4) (λg hg=>hle.block g (bD hI dy (hV y dy).2 hg) (uk g hg)) hle.size (λF hF=>bY e3 hown hF) (λF hF=>by
    have e4:Ext (minus (own c V none_ β) (β y.id)) w w':=Ext.iO hle λk j _ hk'=>⟨ob k j hk',λhy'=>uk k hy' hk'⟩
    refine bY e4 ?_ hF
    rintro k j hk' ⟨h1,h2⟩
    exact⟨hown k j hk' h1,h2⟩) rfl
 ·rcases hsub y hy with rfl|⟨dy,h4⟩<;>rcases hsub z hz with rfl|⟨Bt,h6⟩
  ·exact absurd rfl hne
  ·intro h1 h2
   have h1:β' id g:=h1
   rw[bx]at h1
   rw[bo z h6]at h2
   exact(Bj g h1).elim (λh1=>hI.apart _ z g hx Bt Ad (hV z Bt).2 hne h1 h2) λe=>absurd (bD hI Bt (hV z Bt).2 h2) (by omega)
  ·intro h1 h2
   have h2:β' id g:=h2
   rw[bx]at h2
   rw[bo y h4]at h1
   exact(Bj g h2).elim (λh2=>hI.apart y _ g dy hx (hV y dy).2 Ad hne h1 h2) λe=>absurd (bD hI dy (hV y dy).2 h1) (by omega)
  ·rw[bo y h4,bo z h6]
   exact hI.apart y z g dy Bt (hV y dy).2 (hV z Bt).2 hne
 ·rcases List.mem_cons.1 he with rfl|he
  ·refineλw'' _=>?_
   show sl (a.put (some d) _) d=_
   exact cH (by rw[hI.size]; exact hd)
  ·show aN _ (λw=>e.p w (sl (a.put (some d) _) e.slot)) w'
   rw[sd _ _ (hG e he)]
   exact bY e3 hown (hI.gm e he pY hf')
variable {fn:Func}
end
end Wx
