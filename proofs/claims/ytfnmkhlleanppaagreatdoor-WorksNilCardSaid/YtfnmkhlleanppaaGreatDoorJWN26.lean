import Derived.Test.YtfnmkhlleanppaaGreatDoorJWN25
import Derived.Test.YtfnmkhlleanppaaGreatDoorJWN23
namespace Wx
open Go Go.RowKit
section
variable {P:Program} {c:bD} {V:List Vr} {A:List Al} {G:List aD} {a:Act} {w:World} {o:Oper}{d:Nat} {x:Operand} {ty:TypeId} {pos:String} {aj:Array Edge}
theorem aT.lu {β:Nat->Nat->Prop} {id s n0:Nat} {H H':List Bk} {v:Value} {w':World} {B':Nat->Prop} (hI:aT c V [] G none_ β a w) (hk:V[n0]?=some (aM id s H)) (hle:cI (β id) w w') (yO:∀k,B' k->β id k\/w.heap.size<=k) (rM:bE B' w' H') (hd:d<c.N)
  (hV:(V.all λy=>(y.slot != d)&&(y.born.isNone&&y.dead.isNone))=true) (hu:(V.filter λy=>y.id==id).length=1) (hG:(G.all λe=>e.slot != d)=true):
  Inv c (V.set n0 (aM id s H')) [] (⟨none,none,d,aE v⟩::G) none_ (a.put (some d) v) w':=by
 have hx:=List.mem_of_getElem? hk
 have hV:∀y,y∈V->y.slot≠d/\live none_ y=true:=λy hy=>by
  rw[List.all_eq_true]at hV
  have:=hV y hy
  simp only[Bool.and_eq_true,bne_iff_ne]at this
  refine⟨this.1,?_⟩
  unfold live
  cases hb:y.born with
  |some j=>rw[hb]at this; cases this.2.1
  |none=>cases hd:y.dead with
   |some j=>rw[hd]at this; cases this.2.2
   |none=>rfl
 have hG:∀e,e∈G->e.slot≠d:=λe he=>by
  rw[List.all_eq_true]at hG
  simpa using hG e he
 have xw:n0<V.length:=by
  rcases Nat.lt_or_ge n0 V.length with h'|h'
  ·exact h'
  ·rw[List.getElem?_eq_none h']at hk; cases hk
 have xG:live none_ (aM id s H)=true:=rfl
 have hsub:∀y,y∈V.set n0 (aM id s H')->y=aM id s H'\/(y∈V/\y.id≠id):=λy hy=>by
  obtain⟨j,hj⟩:=List.mem_iff_getElem?.1 hy
  by_cases zN:j=n0
  ·subst zN
   rw[List.getElem?_set_self xw]at hj
   exact .inl (Option.some.inj hj).symm
  ·rw[List.getElem?_set_ne (Ne.symm zN)]at hj
   have cR:=List.mem_of_getElem? hj
   by_cases hid:y.id=id
   ·exfalso
    have e:=aW hu cR hx (by simpa using hid) (by simp)
    subst e
    have h2:((V.filter λy=>y.id==id).length)>=2:=by
     have yS:[aM id s H,aM id s H].Sublist V:=by
      rcases Nat.lt_or_ge j n0 with hlt|hge
      ·exact gR hj hk hlt
      ·exact gR hk hj (by omega)
     have:=(yS.filter λy=>y.id==id).length_le
     simpa using this
    omega
   ·exact .inr ⟨cR,hid⟩
 let β':Nat->Nat->Prop:=λq=>if q=id then B' else β q
 have bx:β' id=B':=if_pos rfl
 have bo:∀y:Vr,y.id≠id->β' y.id=β y.id:=λy hy=>if_neg hy
 have hB:∀k,β id k->mine c k/\k<w.heap.size/\∀o v,w.cell? ⟨k,o,none⟩=some v->dc v:=λk hk'=>gX hI hx xG hk'
 have ob:∀k j,β id k->own c V none_ β k j:=λk j hk'=>.inr ⟨_,hx,xG,hk',Nat.zero_le _⟩
 have e3:Ext (own c V none_ β) w w':=Ext.gO hle λk j _ hk'=>ob k j hk'
 have hown:∀k j,k<w.heap.size->own c (V.set n0 (aM id s H')) none_ β' k j->own c V none_ β k j:=by
  rintro k' j hk' (h1|⟨y,hy,h1,h2,h3⟩)
  ·exact .inl h1
  ·rcases hsub y hy with rfl|⟨cR,h4⟩
   ·have h2:β' id k':=h2
    rw[bx]at h2
    exact(yO k' h2).elim (ob k' j) λe=>by omega
   ·rw[bo y h4]at h2
    exact .inr ⟨y,cR,h1,h2,h3⟩
 have jc:cQ (own c (V.set n0 (aM id s H')) none_ β') w':=by
  rintro k j hk'
  by_cases A8:B' k
  ·exact⟨(rM.lB A8).1,λu hu=>(rM.lB A8).2 j u hu⟩
  ·have:own c V none_ β k j/\¬β id k\/own c V none_ β k j/\β id k/\k<w.heap.size:=by
    rcases hk' with h1|⟨y,hy,h1,h2,h3⟩
    ·by_cases hb:β id k
     ·exact .inr ⟨.inl h1,hb,(hB k hb).2.1⟩
     ·exact .inl ⟨.inl h1,hb⟩
    ·rcases hsub y hy with rfl|⟨cR,h4⟩
     ·have h2:β' id k:=h2
      rw[bx]at h2
      exact absurd h2 A8
     ·rw[bo y h4]at h2
      exact .inl ⟨.inr ⟨y,cR,h1,h2,h3⟩,λhb=>hI.apart y _ k cR hx (hV y cR).2 xG h4 h2 hb⟩
   rcases this with⟨h1,h2⟩|⟨h1,h2,h3⟩
   ·obtain⟨h5,h6⟩:=aF hI k j h1
    refine⟨Nat.lt_of_lt_of_le h5 hle.size,λu de=>h6 u ?_⟩
    rw[World.cell?_of_block (w:=w) (a:=⟨k,j,none⟩) (hle.block k h5 h2)]at de
    exact de
   ·rcases hk' with h4|⟨y,hy,h4,h5,h6⟩
    ·exact absurd ((hI.old k j h4).1) (by
      rintro⟨h7,h8⟩
      rcases (hB k h2).1 with h9|h9
      ·omega
      ·exact h8 h9)
    ·rcases hsub y hy with rfl|⟨cR,h7⟩
     ·have h5:β' id k:=h5
      rw[bx]at h5
      exact absurd h5 A8
     ·rw[bo y h7]at h5
      exact absurd h2 (hI.apart y _ k cR hx (hV y cR).2 xG h7 h5)
 have sd:∀v s,s≠d->sl (a.put (some d) v) s=sl a s:=λv s hs=>bf λe=>hs (Option.some.inj e).symm
 refine⟨β',by rw[dh]; exact hI.size,by rw[put_defers]; exact hI.defers,⟨hle.os.trans hI.below.os,hle.tape.trans hI.below.tape,hle.output.trans hI.below.output,Nat.le_trans hI.below.size hle.size,λk hk' hn=>?_⟩,hI.fg λk hk' hn=>?_,λy hy _=>?_,λy z g hy hz _ _ hne=>?_,(λp hp=>by cases hp),λe he nY hf'=>?_⟩
 ·rw[hle.block k (Nat.lt_of_lt_of_le hk' hI.below.size) λhb=>(hB k hb).1.elim (λh3=>by omega) (λh3=>hn h3)]
  exact hI.below.block k hk' hn
 ·exact hle.block k (Nat.lt_of_lt_of_le hk' hI.below.size) λhb=>(hB k hb).1.elim (λh3=>by omega) (λh3=>hn h3)
 ·rcases hsub y hy with rfl|⟨cR,h4⟩
  ·refine(aP rfl).2 ?_
   show jR _ c none_ _ w' _ (β' id)
   rw[bx]
   refine⟨λk hk'=>⟨?_,(rM.lB hk').1,λo v hv=>(rM.lB hk').2 o v hv⟩,rM.box jc⟩
   exact(yO k hk').elim (λhk'=>(hB k hk').1) λe=>.inl (Nat.le_trans hI.below.size e)
  ·have rS:∀g,β y.id g->¬β id g:=λg hg=>hI.apart y _ g cR hx (hV y cR).2 xG h4 hg
   exact(hI.var y cR (hV y cR).2).keep (sd _ _ (hV y cR).1) (bo y h4) (λg hg=>hle.block g (bR hI cR (hV y cR).2 hg) (rS g hg)) hle.size (λF hF=>cK e3 hown hF) (λF hF=>by
    have e4:Ext (minus (own c V none_ β) (β y.id)) w w':=Ext.gO hle λk j _ hk'=>⟨ob k j hk',λhy'=>rS k hy' hk'⟩
    refine cK e4 ?_ hF
    rintro k j hk' ⟨h1,h2⟩
    exact⟨hown k j hk' h1,h2⟩) rfl
 ·rcases hsub y hy with rfl|⟨cR,h4⟩<;>rcases hsub z hz with rfl|⟨yT,h6⟩
  ·exact absurd rfl hne
  ·intro h1 h2
   have h1:β' id g:=h1
   rw[bx]at h1
   rw[bo z h6]at h2
   exact(yO g h1).elim (λh1=>hI.apart _ z g hx yT xG (hV z yT).2 hne h1 h2) λe=>absurd (bR hI yT (hV z yT).2 h2) (by omega)
  ·intro h1 h2
   have h2:β' id g:=h2
   rw[bx]at h2
   rw[bo y h4]at h1
   exact(yO g h2).elim (λh2=>hI.apart y _ g cR hx (hV y cR).2 xG hne h1 h2) λe=>absurd (bR hI cR (hV y cR).2 h1) (by omega)
  ·rw[bo y h4,bo z h6]
   exact hI.apart y z g cR yT (hV y cR).2 (hV z yT).2 hne
 ·rcases List.mem_cons.1 he with rfl|he
  ·refineλw'' _=>?_
   show sl (a.put (some d) _) d=_
   exact dK (by rw[hI.size]; exact hd)
  ·show aL _ (λw=>e.p w (sl (a.put (some d) _) e.slot)) w'
   rw[sd _ _ (hG e he)]
   exact cK e3 hown (hI.fq e he nY hf')
variable {fn:Func}
end
end Wx

namespace Wx
set_option maxRecDepth 100000
set_option maxHeartbeats 1000000
open Go Go.RowKit Go.Proofs
set_option linter.unusedVariables false
attribute [local irreducible] OpOk
def vh (h x:Int):Int:=ny (ny (31*ny (h+ny x))+7)
def qK (h:Int) (s:ByteArray):Nat->Int
 |0=>h
 |k+1=>vh (qK h s k) (kO s k)
def AL (h:Int) (s:ByteArray):Int:=qK h s s.size
def fH (φ:Int->Bool) (s:ByteArray):Bool:=decide (∀k,k<s.size->φ (kO s k)=true)&&decide (s≠⟨#[]⟩)
def jj (x:Int):Bool:=decide (x>32)&&decide (x<127)
def rq (x:Int):Bool:=decide (x>=48)&&decide (x<=57)
def sF (x:Int):Bool:=((decide (x>=97)&&decide (x<=122))||rq x)||decide (x=45)
theorem vS {h:Int} {s:ByteArray} (hz:s.size<=1000000):K2 Tryz.prog 12 (iw h) (pT s) (iw (AL h s)):=by
 intro M w0 v0 v1 hM hv0 ck
 refine dM (N:=22) Tryz.func12 rfl rfl rfl hM hv0 ck λa hI=>?_
 refine ai hI 1 [Uc 0 4 _] (.kk .z) ⟨mv,trivial⟩ (.aU .z) λa w hI=>?_
 refine aq ?_
 refine ai hI 4 [Uc 0 7 _,Uc 1 8 _,Uc 2 9 _,Uc 3 10 _] (.aU .z) ⟨mv,CH,ln,mv,trivial⟩ (.uF (.aU .z)) λa w hI=>?_
 refine bp ?_
 refine yN [] [Uz 4 _,Uz 8 _,Uz 9 _] (λ(i:Nat)=>[]) (λ(i:Nat)=>[Uz 10 (pI (i:Int)),Uz 0 (iw (qK h s i))]) (λ(i:Nat)=>i<=s.size) (λ(i:Nat)=>s.size-i) (0) (Nat.zero_le _) hI trivial ⟨gi,gi,gi,gc,gc,trivial⟩ ?_
 intro i a w hp hI
 refine ai hI 1 [Uc 0 11 _] (.af (.k .z)) ⟨bn,trivial⟩ (.af (.kk .z)) λa w hI=>?_
 refine aq ?_
 refine qV hI (λt1=>?_) (λt1=>?_)
 ·
  refine aN ?_
  refine au ?_
  refine aq ?_
  refine bp ?_
  refine ai hI 3 [Uc 0 12 _,Uc 1 13 _,Uc 2 6 _] (.af (.kk .z)) ⟨ix,aI hs (pt rfl) (by kernel_rfl) (bG (lC _) rfl rfl),mv,trivial⟩ (.af (.jO (.k .z))) λa w hI=>?_
  refine lQ hI 7 [Uc 0 14 _,Uc 1 15 _,Uc 2 16 _,Uc 3 17 _,Uc 4 18 _,Uc 5 19 _,Uc 6 0 _] (.af (.t 6 (.k .z))) ⟨mv,mv,zn,zf,Ck,zf,mv,trivial⟩ (.af (.d8 (.k .z))) λa w hI=>?_
  refine cJ ?_
  refine au ?_
  refine lQ hI 2 [Uc 0 20 _,Uc 1 10 _] (.aU (.t 1 (.k .z))) ⟨bn,mv,trivial⟩ (.bT (.lg .z)) λa w hI=>?_
  refine au ?_
  exact xU (i+1) (by omega) hI trivial ⟨gc,gc,gc,gc,gc,trivial⟩ (by omega)
 ·
  refine eJ ?_
  refine bt ?_
  refine bt ?_
  refine cC ?_
  refine au ?_
  obtain rfl:i=s.size:=by omega
  refine ai hI 2 [Uc 0 21 _,Uc 1 4 _] (.t 1 (.af (.k .z))) ⟨mv,mv,trivial⟩ (.bY (.ct .z)) λa w hI=>?_
  refine ay ?_
  exact bP hI rfl cP
variable {x:Int}
theorem uJ (_:True):K1 Tryz.prog 63 (wz x) (pB (jj x)):=by
 intro M w0 v0 hM hv0
 refine fL (N:=9) Tryz.func63 rfl rfl rfl hM hv0 λa hI=>?_
 refine ai hI 1 [Uc 0 2 _] (.k .z) ⟨mv,trivial⟩ (.kk .z) λa w hI=>?_
 refine ai hI 7 [Uc 0 3 _,Uc 1 4 _,Uc 2 5 _,Uc 3 6 _,Uc 4 7 _,Uc 5 8 _,Uc 6 2 _] (.k (.t 6 .z)) ⟨mv,bn,mv,gd λh=>fu h,gd λh=>lS h,pk,mv,trivial⟩ (.d8 (.k .z)) λa w hI=>?_
 refine ay ?_
 exact bP hI rfl cP
theorem sn (_:True):K1 Tryz.prog 70 (wz x) (pB (rq x)):=by
 intro M w0 v0 hM hv0
 refine fL (N:=9) Tryz.func70 rfl rfl rfl hM hv0 λa hI=>?_
 refine ai hI 1 [Uc 0 2 _] (.k .z) ⟨mv,trivial⟩ (.kk .z) λa w hI=>?_
 refine ai hI 7 [Uc 0 3 _,Uc 1 4 _,Uc 2 5 _,Uc 3 6 _,Uc 4 7 _,Uc 5 8 _,Uc 6 2 _] (.k (.t 6 .z)) ⟨mv,bn,mv,gd λh=>fu h,gd λh=>lS h,pk,mv,trivial⟩ (.d8 (.k .z)) λa w hI=>?_
 refine ay ?_
 exact bP hI rfl cP
theorem uK (_:True):K1 Tryz.prog 107 (wz x) (pB (sF x)):=by
 intro M w0 v0 hM hv0
 refine fL (N:=17) Tryz.func107 rfl rfl rfl hM hv0 λa hI=>?_
 refine ai hI 1 [Uc 0 2 _] (.k .z) ⟨mv,trivial⟩ (.kk .z) λa w hI=>?_
 refine ai hI 15 [Uc 0 3 _,Uc 1 4 _,Uc 2 5 _,Uc 3 6 _,Uc 4 7 _,Uc 5 8 _,Uc 6 9 _,Uc 7 10 _,Uc 8 11 _,Uc 9 12 _,Uc 10 13 _,Uc 11 14 _,Uc 12 15 _,Uc 13 16 _,Uc 14 2 _] (.k (.t 14 .z)) ⟨mv,bn,mv,gd λh=>fu h,gd λh=>lS h,pk,mv,gd λh=>fu h,gd λh=>rL h sn,pk,mv,gd λh=>fu h,gd λh=>lS h,pk,mv,trivial⟩ (.d8 (.d8 (.k .z))) λa w hI=>?_
 refine ay ?_
 exact bP hI rfl cP
end Wx

namespace Wx
open Go Go.RowKit Go.Proofs
set_option linter.unusedVariables false
def byteOf (n:Int):UInt8:=UInt8.ofNat (n%256).toNat
section
variable {P:Program} {ops:Array Oper} {ms:List Nat} {c:bD} {V:List Vr} {A:List Al} {G:List aD} {i d:Nat} {x y z:Operand} {ty t u:TypeId} {pos:String} {aj:Array Edge} {m n:Int}
theorem Br {T:TypeId} {s:ByteArray} (E:TypeId) (ht:fS P T E 1:=by exact⟨by kernel_rfl,λ_=>by kernel_rfl⟩) (lf:∀w,(zeroValue E).run P w=.ok (.string ⟨#[]⟩) w:=by exactλ_=>by kernel_rfl) (h1:Has ms G i x (pT s):=by exact hs) (hp:Post G i (aK 1 false 1 λ_=>pT s):=by exact pt rfl):
  OpOk P ops ms c V A G i ⟨some d,.buildSlice T 1 #[(0,x)],ty,pos,aj,none⟩:=zi E (.string ⟨#[]⟩) ht lf rfl (bG (eE _) rfl rfl) h1 hp
end
end Wx
