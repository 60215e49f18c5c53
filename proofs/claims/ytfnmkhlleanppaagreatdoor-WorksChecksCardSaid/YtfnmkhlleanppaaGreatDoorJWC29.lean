import Derived.Lib.IndexMore
import Derived.Test.YtfnmkhlleanppaaGreatDoorJWC25
namespace Wx
open Go Go.RowKit Go.Proofs
set_option linter.unusedVariables false
def fI (c:Int) (s:ByteArray):Nat:=s.data.toList.findIdx λb=>decide ((b.toNat:Int)=c)
theorem mF (c:Int) (s:ByteArray):fI c s<=s.size:=by
 have:=List.findIdx_le_length (p:=λb:UInt8=>decide ((b.toNat:Int)=c)) (xs:=s.data.toList)
 rwa [Array.length_toList]at this
variable {c:Int} {s:ByteArray} {k:Nat}
theorem pO (h:k<fI c s):bz s k≠c:=by
 have hk:k<s.size:=Nat.lt_of_lt_of_le h (mF c s)
 have h2:=List.not_of_lt_findIdx h
 rw[cG hk]
 exact of_decide_eq_false h2
theorem tj (h:fI c s<s.size):bz s (fI c s)=c:=by
 have h':fI c s<s.data.toList.length:=by rw[Array.length_toList]; exact h
 have:=List.findIdx_getElem (p:=λb:UInt8=>decide ((b.toNat:Int)=c)) (xs:=s.data.toList) (w:=h')
 rw[cG h]
 exact of_decide_eq_true this
theorem idx_eq (hk:k<=s.size) (hn:∀j,j<k->bz s j≠c) (ha:k<s.size->bz s k=c):fI c s=k:=by
 rcases Nat.lt_trichotomy (fI c s) k with h|h|h
 ·exact absurd (tj (by omega)) (hn _ h)
 ·exact h
 ·exact absurd (ha (by have:=mF c s; omega)) (pO h)
def iz (c:Int) (s:ByteArray):Bool:=decide (fI c s<s.size)
def eU (c:Int) (s:ByteArray):ByteArray:=s.extract 0 (fI c s)
def fA (c:Int) (s:ByteArray):ByteArray:=s.extract (fI c s+1) s.size
theorem qh (c:UInt8) (s:ByteArray) (j:Nat):Lib.occAt s.data.toList [c] j=true↔j<s.size/\bz s j=(c.toNat:Int):=by
 show List.isPrefixOf [c] (s.data.toList.drop j)=true↔_
 by_cases h:j<s.size
 ·have h':j<s.data.toList.length:=by rw[Array.length_toList]; exact h
  rw[List.drop_eq_getElem_cons h',cG h,show s[j]=s.data.toList[j]from rfl]
  generalize s.data.toList[j]=u
  show(c==u&&true)=true↔_
  rw[Bool.and_true,beq_iff_eq]
  constructor
  ·rintro rfl; exact⟨h,rfl⟩
  ·rintro⟨_,e⟩
   refine UInt8.toNat_inj.1 ?_
   omega
 ·rw[List.drop_eq_nil_of_le (by rw[Array.length_toList]; exact Nat.not_lt.1 h)]
  exact⟨λk=>(by cases k),λk=>absurd k.1 h⟩
theorem zT (s:ByteArray) (k:Nat):(⟨(s.data.toList.take k).toArray⟩:ByteArray)=s.extract 0 k:=by
 have hs:(⟨(s.data.toList.take k).toArray⟩:ByteArray).size=(s.extract 0 k).size:=by
  rw[ByteArray.size_extract]
  show(s.data.toList.take k).toArray.size=_
  rw[List.size_toArray,List.length_take,Array.length_toList]
  show min k s.size=_
  omega
 refine dN hs λj hj=>?_
 rw[hs]at hj
 rw[cJ hj,Nat.zero_add]
 rw[ByteArray.size_extract]at hj
 show(((s.data.toList.take k).getD j 0).toNat:Int)=((s.data.toList.getD j 0).toNat:Int)
 rw[List.getD_eq_getElem?_getD,List.getElem?_take,if_pos (by omega),List.getD_eq_getElem?_getD]
theorem xC (s:ByteArray) (k:Nat):(⟨(s.data.toList.drop k).toArray⟩:ByteArray)=s.extract k s.size:=by
 have hs:(⟨(s.data.toList.drop k).toArray⟩:ByteArray).size=(s.extract k s.size).size:=by
  rw[ByteArray.size_extract]
  show(s.data.toList.drop k).toArray.size=_
  rw[List.size_toArray,List.length_drop,Array.length_toList]
  show s.size-k=_
  omega
 refine dN hs λj hj=>?_
 rw[hs]at hj
 rw[cJ hj]
 show(((s.data.toList.drop k).getD j 0).toNat:Int)=((s.data.toList.getD (k+j) 0).toNat:Int)
 rw[List.getD_eq_getElem?_getD,List.getElem?_drop,List.getD_eq_getElem?_getD]
theorem DT (c:UInt8) (s:ByteArray):(⟨(Lib.cut s.data.toList [c]).1.toArray⟩:ByteArray)=eU c.toNat s/\(⟨(Lib.cut s.data.toList [c]).2.1.toArray⟩:ByteArray)=fA c.toNat s/\(Lib.cut s.data.toList [c]).2.2=iz c.toNat s:=by
 rcases Lib.index_spec s.data.toList [c]with⟨h1,h2⟩|⟨i,h1,h2,h3,h4⟩
 ·have hi:fI c.toNat s=s.size:=idx_eq (Nat.le_refl _) (λj hj e=>by
   have:=h2 j (by rw[Array.length_toList]; exact Nat.le_of_lt hj)
   rw[(qh c s j).2 ⟨hj,e⟩]at this
   cases this) λh=>absurd h (Nat.lt_irrefl _)
  unfold Lib.cut eU fA iz
  rw[h1,if_neg (by omega),hi]
  refine⟨(ByteArray.extract_zero_size (b:=s)).symm,?_,(decide_eq_false (Nat.lt_irrefl _)).symm⟩
  refine dN (by rw[ByteArray.size_extract]; show 0=_; omega) λk hk=>absurd hk (Nat.not_lt_zero _)
 ·have hat:=(qh c s i).1 h3
  have hi:fI c.toNat s=i:=idx_eq (Nat.le_of_lt hat.1) (λj hj e=>by
   have:=h4 j hj
   rw[(qh c s j).2 ⟨by omega,e⟩]at this
   cases this) λ_=>hat.2
  unfold Lib.cut eU fA iz
  rw[h1,if_pos (by omega),hi]
  exact⟨zT s i,xC s (i+1),(decide_eq_true hat.1).symm⟩
theorem C3 (c:UInt8) (h:s.size<=1000000):J2 Tryz.prog 66 (pT s) (pT ⟨#[c]⟩) (kj (pT (eU c.toNat s)) (pT (fA c.toNat s)) (pB (iz c.toNat s))):=λM w v0 v1 hM hG h0 h1=>by
 obtain rfl:v0=.string s:=h0.out
 obtain rfl:v1=.string ⟨#[c]⟩:=h1.out
 obtain⟨⟨m,hm⟩,_⟩:=hG.out
 refine(Tryz.strings_Cut s ⟨#[c]⟩ m w (by omega) hm).mono ?_
 rintro e w' ⟨rfl,n,rfl⟩
 obtain⟨e1,e2,e3⟩:=DT c s
 refine⟨_,rfl,λ_ _=>⟨_,_,_,rfl,?_,?_,?_⟩,⟨rfl,rfl,rfl,Nat.le_refl _,λ_ _=>rfl⟩⟩
 ·show Value.string _=_; rw[<-e1]
 ·show Value.string _=_; rw[<-e2]
 ·show Value.bool _=_; rw[<-e3]
def dK (t:ByteArray):Nat->Nat
 |0=>0
 |q+1=>dK t q+fI 10 (t.extract (dK t q) t.size)+1
def ie (t:ByteArray) (q:Nat):ByteArray:=t.extract (dK t q) t.size
def rM (t:ByteArray) (q:Nat):Bool:=iz 10 (ie t q)
def cZ (t:ByteArray) (q:Nat):ByteArray:=eU 10 (ie t q)
theorem fM (t:ByteArray) (q:Nat):dK t (q+1)=dK t q+fI 10 (ie t q)+1:=rfl
theorem eW (t:ByteArray) (q:Nat):(ie t q).size=t.size-dK t q:=by unfold ie; rw[ByteArray.size_extract]; omega
theorem HI (t:ByteArray):ie t 0=t:=ByteArray.extract_zero_size
theorem yP (t:ByteArray) (q:Nat):fA 10 (ie t q)=ie t (q+1):=by
 have hz:=eW t q
 have e1:fA 10 (ie t q)=t.extract (dK t q+(fI 10 (ie t q)+1)) (dK t q+(ie t q).size):=jH t
 rw[e1]
 show _=t.extract (dK t (q+1)) t.size
 rw[fM,hz,<-Nat.add_assoc]
 by_cases h:dK t q<=t.size
 ·rw[show dK t q+(t.size-dK t q)=t.size by omega]
 ·have a1:(t.extract (dK t q+fI 10 (ie t q)+1) (dK t q+(t.size-dK t q))).size=0:=by rw[ByteArray.size_extract]; omega
  have a2:(t.extract (dK t q+fI 10 (ie t q)+1) t.size).size=0:=by rw[ByteArray.size_extract]; omega
  exact dN (a1.trans a2.symm) λk hk=>by omega
theorem qb (t:ByteArray):∀q,q<=dK t q
 |0=>Nat.le_refl _
 |q+1=>by have:=qb t q; rw[fM]; omega
variable {t:ByteArray} {q:Nat}
theorem pZ (h:rM t q=true):dK t (q+1)<=t.size:=by
 have:=of_decide_eq_true h
 rw[eW]at this
 rw[fM]; omega
theorem rN {p:Nat} (h:p<=q):dK t p<=dK t q:=by
 induction q with
 |zero=>rw[show p=0 by omega]; exact Nat.le_refl _
 |succ q ih=>
  by_cases e:p=q+1
  ·rw[e]; exact Nat.le_refl _
  ·have:=ih (by omega); rw[fM]; omega
def sU (t:ByteArray):Nat->Nat->Nat
 |0,q=>q
 |f+1,q=>if rM t q=true then sU t f (q+1)else q
def aL (t:ByteArray):Nat:=sU t t.size 0
theorem AK (h:∀j,j<k->rM t j=true) (hn:rM t k=false):∀f q,q<=k->k<=q+f->sU t f q=k:=by
 intro f
 induction f with
 |zero=>intro q h1 h2; show q=k; omega
 |succ f ih=>
  intro q h1 h2
  unfold sU
  by_cases e:q=k
  ·rw[e,hn]; exact if_neg Bool.false_ne_true
  ·rw[if_pos (h q (by omega))]
   exact ih _ (by omega) (by omega)
theorem AJ (h:∀j,j<k->rM t j=true) (hn:rM t k=false):aL t=k:=by
 refine AK h hn _ _ (Nat.zero_le _) ?_
 rcases Nat.eq_zero_or_pos k with e|e
 ·omega
 ·obtain⟨j,rfl⟩:∃j,k=j+1:=⟨k-1,by omega⟩
  have h1:=pZ (h j (by omega))
  have h2:=qb t (j+1)
  omega
theorem jG (t:ByteArray):(∀j,j<aL t->rM t j=true)/\rM t (aL t)=false:=by
 have key:∀f q,(∀j,j<q->rM t j=true)->t.size<=q+f->(∀j,j<sU t f q->rM t j=true)/\rM t (sU t f q)=false:=by
  intro f
  induction f with
  |zero=>
   intro q h1 h2
   refine⟨h1,?_⟩
   show rM t q=false
   cases h:rM t q with
   |false=>rfl
   |true=>
    have h3:=pZ h
    have h4:=qb t (q+1)
    omega
  |succ f ih=>
   intro q h1 h2
   unfold sU
   cases h:rM t q with
   |false=>rw[if_neg Bool.false_ne_true]; exact⟨h1,h⟩
   |true=>
    rw[if_pos rfl]
    exact ih (q+1) (λj hj=>if e:j=q then by rw[e]; exact h else h1 j (by omega)) (by omega)
 exact key _ 0 (λj h=>absurd h (Nat.not_lt_zero _)) (by omega)
theorem lO (t:ByteArray):aL t<=t.size:=by
 rcases Nat.eq_zero_or_pos (aL t)with e|e
 ·omega
 ·have h1:=pZ ((jG t).1 (aL t-1) (by omega))
  have h2:=qb t (aL t-1+1)
  omega
theorem yO (t:ByteArray) (q:Nat):(ie t q).size<=t.size:=by rw[eW]; omega
theorem BF (t:ByteArray) {q:Nat}:cZ t q=t.extract (dK t q) (dK t q+fI 10 (ie t q)):=by
 unfold cZ eU
 have hi:=mF 10 (ie t q)
 have hs:((ie t q).extract 0 (fI 10 (ie t q))).size=(t.extract (dK t q) (dK t q+fI 10 (ie t q))).size:=by
  rw[ByteArray.size_extract,ByteArray.size_extract,eW]at *
  omega
 refine dN hs λk hk=>?_
 rw[cJ hk,cJ (hs▸hk),Nat.zero_add]
 unfold ie
 rw[eT]
end Wx

namespace Wx
open Go Go.RowKit
section
variable {P:Program} {c:bQ} {V:List Vr} {A:List Al} {G:List aN} {a:Act} {w:World} {o:Oper}{d:Nat} {x:Operand} {ty:TypeId} {pos:String} {aft:Array Edge}
theorem aQ.pY {β:Nat->Nat->Prop} {id s n0:Nat} {H H':List Bk} {v:Value} {w':World} {B':Nat->Prop} (hI:aQ c V [] G none_ β a w) (hk:V[n0]?=some (aZ id s H)) (hle:bX (β id) w w') (FP:∀k,B' k->β id k\/w.heap.size<=k) (xS:cn B' w' H') (hd:d<c.N)
  (hV:(V.all λy=>(y.slot != d)&&(y.born.isNone&&y.dead.isNone))=true) (hu:(V.filter λy=>y.id==id).length=1) (hG:(G.all λe=>e.slot != d)=true):
  Inv c (V.set n0 (aZ id s H')) [] (⟨none,none,d,aG v⟩::G) none_ (a.put (some d) v) w':=by
 have hx:=List.mem_of_getElem? hk
 have hV:∀y,y∈V->y.slot≠d/\live none_ y=true:=λy hy=>by
  rw[List.all_eq_true]at hV
  have:=hV y hy
  simp only[Bool.and_eq_true,bne_iff_ne]at this
  refine⟨this.1,?_⟩
  unfold live
  cases hb:y.born with
  |some j=>rw[hb]at this; cases this.2.1
  |none=>cases hd:y.dead with
   |some j=>rw[hd]at this; cases this.2.2
   |none=>rfl
 have hG:∀e,e∈G->e.slot≠d:=λe he=>by
  rw[List.all_eq_true]at hG
  simpa using hG e he
 have Eh:n0<V.length:=by
  rcases Nat.lt_or_ge n0 V.length with h'|h'
  ·exact h'
  ·rw[List.getElem?_eq_none h']at hk; cases hk
 have Ev:live none_ (aZ id s H)=true:=rfl
 have hsub:∀y,y∈V.set n0 (aZ id s H')->y=aZ id s H'\/(y∈V/\y.id≠id):=λy hy=>by
  obtain⟨j,hj⟩:=List.mem_iff_getElem?.1 hy
  by_cases G5:j=n0
  ·subst G5
   rw[List.getElem?_set_self Eh]at hj
   exact .inl (Option.some.inj hj).symm
  ·rw[List.getElem?_set_ne (Ne.symm G5)]at hj
   have eB:=List.mem_of_getElem? hj
   by_cases hid:y.id=id
   ·exfalso
    have e:=ck hu eB hx (by simpa using hid) (by simp)
    subst e
    have h2:((V.filter λy=>y.id==id).length)>=2:=by
     have lS:[aZ id s H,aZ id s H].Sublist V:=by
      rcases Nat.lt_or_ge j n0 with hlt|hge
      ·exact kn hj hk hlt
      ·exact kn hk hj (by omega)
     have:=(lS.filter λy=>y.id==id).length_le
     simpa using this
    omega
   ·exact .inr ⟨eB,hid⟩
 let β':Nat->Nat->Prop:=λq=>if q=id then B' else β q
 have bx:β' id=B':=if_pos rfl
 have bo:∀y:Vr,y.id≠id->β' y.id=β y.id:=λy hy=>if_neg hy
 have hB:∀k,β id k->mine c k/\k<w.heap.size/\∀o v,w.cell? ⟨k,o,none⟩=some v->dB v:=λk hk'=>kB hI hx Ev hk'
 have ob:∀k j,β id k->own c V none_ β k j:=λk j hk'=>.inr ⟨_,hx,Ev,hk',Nat.zero_le _⟩
 have e3:Ext (own c V none_ β) w w':=Ext.ke hle λk j _ hk'=>ob k j hk'
 have hown:∀k j,k<w.heap.size->own c (V.set n0 (aZ id s H')) none_ β' k j->own c V none_ β k j:=by
  rintro k' j hk' (h1|⟨y,hy,h1,h2,h3⟩)
  ·exact .inl h1
  ·rcases hsub y hy with rfl|⟨eB,h4⟩
   ·have h2:β' id k':=h2
    rw[bx]at h2
    exact(FP k' h2).elim (ob k' j) λe=>by omega
   ·rw[bo y h4]at h2
    exact .inr ⟨y,eB,h1,h2,h3⟩
 have fg:cS (own c (V.set n0 (aZ id s H')) none_ β') w':=by
  rintro k j hk'
  by_cases IM:B' k
  ·exact⟨(xS.qf IM).1,λu hu=>(xS.qf IM).2 j u hu⟩
  ·have:own c V none_ β k j/\¬β id k\/own c V none_ β k j/\β id k/\k<w.heap.size:=by
    rcases hk' with h1|⟨y,hy,h1,h2,h3⟩
    ·by_cases hb:β id k
     ·exact .inr ⟨.inl h1,hb,(hB k hb).2.1⟩
     ·exact .inl ⟨.inl h1,hb⟩
    ·rcases hsub y hy with rfl|⟨eB,h4⟩
     ·have h2:β' id k:=h2
      rw[bx]at h2
      exact absurd h2 IM
     ·rw[bo y h4]at h2
      exact .inl ⟨.inr ⟨y,eB,h1,h2,h3⟩,λhb=>hI.apart y _ k eB hx (hV y eB).2 Ev h4 h2 hb⟩
   rcases this with⟨h1,h2⟩|⟨h1,h2,h3⟩
   ·obtain⟨h5,h6⟩:=aF hI k j h1
    refine⟨Nat.lt_of_lt_of_le h5 hle.size,λu dH=>h6 u ?_⟩
    rw[World.cell?_of_block (w:=w) (a:=⟨k,j,none⟩) (hle.block k h5 h2)]at dH
    exact dH
   ·rcases hk' with h4|⟨y,hy,h4,h5,h6⟩
    ·exact absurd ((hI.old k j h4).1) (by
      rintro⟨h7,h8⟩
      rcases (hB k h2).1 with h9|h9
      ·omega
      ·exact h8 h9)
    ·rcases hsub y hy with rfl|⟨eB,h7⟩
     ·have h5:β' id k:=h5
      rw[bx]at h5
      exact absurd h5 IM
     ·rw[bo y h7]at h5
      exact absurd h2 (hI.apart y _ k eB hx (hV y eB).2 Ev h7 h5)
 have sd:∀v s,s≠d->sl (a.put (some d) v) s=sl a s:=λv s hs=>bG λe=>hs (Option.some.inj e).symm
 refine⟨β',by rw[fc]; exact hI.size,by rw[put_defers]; exact hI.defers,⟨hle.os.trans hI.below.os,hle.tape.trans hI.below.tape,hle.output.trans hI.below.output,Nat.le_trans hI.below.size hle.size,λk hk' hn=>?_⟩,hI.iK λk hk' hn=>?_,λy hy _=>?_,λy z g hy hz _ _ hne=>?_,(λp hp=>by cases hp),λe he tg hf'=>?_⟩
 ·rw[hle.block k (Nat.lt_of_lt_of_le hk' hI.below.size) λhb=>(hB k hb).1.elim (λh3=>by omega) (λh3=>hn h3)]
  exact hI.below.block k hk' hn
 ·exact hle.block k (Nat.lt_of_lt_of_le hk' hI.below.size) λhb=>(hB k hb).1.elim (λh3=>by omega) (λh3=>hn h3)
 ·rcases hsub y hy with rfl|⟨eB,h4⟩
  ·refine(aB rfl).2 ?_
   show oc _ c none_ _ w' _ (β' id)
   rw[bx]
   refine⟨λk hk'=>⟨?_,(xS.qf hk').1,λo v hv=>(xS.qf hk').2 o v hv⟩,xS.box fg⟩
   exact(FP k hk').elim (λhk'=>(hB k hk').1) λe=>.inl (Nat.le_trans hI.below.size e)
  ·have ye:∀g,β y.id g->¬β id g:=λg hg=>hI.apart y _ g eB hx (hV y eB).2 Ev h4 hg
   exact(hI.var y eB (hV y eB).2).keep (sd _ _ (hV y eB).1) (bo y h4) (λg hg=>hle.block g (cE hI eB (hV y eB).2 hg) (ye g hg)) hle.size (λF hF=>dh e3 hown hF) (λF hF=>by
    have e4:Ext (minus (own c V none_ β) (β y.id)) w w':=Ext.ke hle λk j _ hk'=>⟨ob k j hk',λhy'=>ye k hy' hk'⟩
    refine dh e4 ?_ hF
    rintro k j hk' ⟨h1,h2⟩
    exact⟨hown k j hk' h1,h2⟩) rfl
 ·rcases hsub y hy with rfl|⟨eB,h4⟩<;>rcases hsub z hz with rfl|⟨F0,h6⟩
  ·exact absurd rfl hne
  ·intro h1 h2
   have h1:β' id g:=h1
   rw[bx]at h1
   rw[bo z h6]at h2
   exact(FP g h1).elim (λh1=>hI.apart _ z g hx F0 Ev (hV z F0).2 hne h1 h2) λe=>absurd (cE hI F0 (hV z F0).2 h2) (by omega)
  ·intro h1 h2
   have h2:β' id g:=h2
   rw[bx]at h2
   rw[bo y h4]at h1
   exact(FP g h2).elim (λh2=>hI.apart y _ g eB hx (hV y eB).2 Ev hne h1 h2) λe=>absurd (cE hI eB (hV y eB).2 h1) (by omega)
  ·rw[bo y h4,bo z h6]
   exact hI.apart y z g eB F0 (hV y eB).2 (hV z F0).2 hne
 ·rcases List.mem_cons.1 he with rfl|he
  ·refineλw'' _=>?_
   show sl (a.put (some d) _) d=_
   exact dr (by rw[hI.size]; exact hd)
  ·show aJ _ (λw=>e.p w (sl (a.put (some d) _) e.slot)) w'
   rw[sd _ _ (hG e he)]
   exact dh e3 hown (hI.ew e he tg hf')
variable {fn:Func}
end
end Wx
