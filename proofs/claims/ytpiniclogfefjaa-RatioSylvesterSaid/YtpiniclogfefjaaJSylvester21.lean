import Derived.Test.YtpiniclogfefjaaJSylvester20
namespace Wx
open Go Go.RowKit Go.Proofs

def ObjA (w:World) (g:Nat) (cs:List Value) (e:TypeId):Prop:=w.heap[g]?=some (.cells cs.toArray e (0,0))
theorem ObjA.cell {w:World} {g:Nat} {cs:List Value} {e:TypeId} (h:ObjA w g cs e) {i:Nat} {v:Value} (hi:cs[i]?=some v):w.cell? ⟨g,i,none⟩=some v:=by
 unfold ObjA at h; simp[World.cell?,h,hi]
theorem ObjA.lt {w:World} {g:Nat} {cs:List Value} {e:TypeId} (h:ObjA w g cs e):g<w.heap.size:=by
 unfold ObjA at h
 rcases Nat.lt_or_ge g w.heap.size with h'|h'
 ·exact h'
 ·rw[Array.getElem?_eq_none h']at h; cases h
theorem ObjA.gone {w w':World} {g:Nat} {cs:List Value} {e:TypeId} (h:ObjA w g cs e) (hb:Below w.heap.size w w'):ObjA w' g cs e:=(hb.block g h.lt).trans h
theorem layA (w:World) (cs:List Value) (e:TypeId):∃w',w.alloc (.cells cs.toArray e)=w'∧ObjA w' w.heap.size cs e∧Below w.heap.size w w'∧w'.heap.size=w.heap.size+1:=
 ⟨_,rfl,heap_alloc_new _ _,Below.alloc (Below.refl _ _) (Nat.le_refl _) _,by simp⟩
end Wx

namespace Wx
open Go Go.RowKit Go.Proofs

end Wx

namespace Wx
set_option maxRecDepth 100000
open Go Go.RowKit Go.Proofs

def awX:Rat:=newR 2 3
def awY:Rat:=newR 1 6
def awZ:Rat:=parseQ [45,55,47,50]
def awD:Rat:=awX-awY
def awF:Rat:=Vn awZ 0
theorem aw1:parseOk [45,55,47,50]=true:=by decide +kernel
theorem aw2:Z7 awZ=[45,55,47,50]:=by decide +kernel
theorem aw3:Z7 awD=[49,47,50]:=by decide +kernel
theorem aw4:Z7 awF=[45,52]:=by decide +kernel
theorem aw5:Bd 10 awD.num.natAbs∧Bd 10 awD.den:=by unfold Bd; decide +kernel
theorem aw6:Bd 10 awF.num.natAbs∧Bd 10 awF.den:=by unfold Bd; decide +kernel
theorem aw7:Bd 10 awX.num.natAbs∧Bd 10 awX.den:=by unfold Bd; decide +kernel
theorem aw8:Bd 10 awY.num.natAbs∧Bd 10 awY.den:=by unfold Bd; decide +kernel
theorem aw9:Bd 10 awZ.num.natAbs∧Bd 10 awZ.den:=by unfold Bd; decide +kernel

set_option maxHeartbeats 1000000 in
theorem awake_num (w:World):Calls Try.prog 6 #[] w (Zv w (.bool true)):=by
 have hc1:∀w,Calls Try.prog 27 #[.int .i64 2,.int .i64 3] w (RetRE w awX 0):=fun w=>new_num w 2 3 (by omega) (by omega) (by omega) (by omega) (by omega)
 have hc2:∀w,Calls Try.prog 27 #[.int .i64 1,.int .i64 6] w (RetRE w awY 0):=fun w=>new_num w 1 6 (by omega) (by omega) (by omega) (by omega) (by omega)
 have hc3:∀w,Calls Try.prog 28 #[.string ⟨#[45,55,47,50]⟩] w (RetRE w awZ 0):=fun w=>parse_ok w [45,55,47,50] (by intro x hx; simp at hx; omega) (by simp) aw1 aw2
 have HC1:=bx hc1
 have HC2:=bx hc2
 have HC3:=bx hc3
 have HB:=bx (And.intro (show BdR 10 awX from aw7) (And.intro (show BdR 10 awY from aw8) (And.intro (show BdR 10 awZ from aw9) (And.intro (show BdR 10 awD from aw5) (show BdR 10 awF from aw6)))))
 have hd1:awX-awY=awD:=rfl
 have hf1:Vn awZ 0=awF:=rfl
 have HD:=bx hd1
 have HF:=bx hf1
 have ht1:((Qu (Z7 awD)).toList==[49,47,50])=true:=by rw[aw3,Ji]; decide
 have ht2:((Qu (Z7 awF)).toList==[45,52])=true:=by rw[aw4,Ji]; decide
 clear hc1 hc2 hc3 hd1 hf1
 generalize awX=x at *
 generalize awY=y at *
 generalize awZ=z at *
 generalize awD=d at *
 generalize awF=f at *
 go_enter Try.func6,Try.ntmps6
 go_wp2_with fail
 refine Calls.mono (HC1.out _) ?_
 rintro e w1 ⟨vx,rfl,hx,b1⟩
 obtain⟨vxn,vxd,rfl,hxn,hxd⟩:=id hx
 obtain⟨Ax1,cx1,rfl,_⟩:=id hxn
 obtain⟨Ax2,cx2,rfl,_⟩:=id hxd
 go_wp2_with fail
 obtain⟨w2,e2,o2,b2,s2⟩:=layA w1 [.bool (decide (x.num<0)),.slice Ax1 (digs Qb x.num.natAbs).length cx1,.slice Ax2 (digs Qb (Qm x.den)).length cx2] 32
 rw[e2]
 clear e2
 have B2:=b1.trans (b2.mono b1.size)
 have hx:=hx.below b2
 refine Calls.mono (HC2.out _) ?_
 rintro e w3 ⟨vy,rfl,hy,b3⟩
 obtain⟨vyn,vyd,rfl,hyn,hyd⟩:=id hy
 obtain⟨Ay1,cy1,rfl,_⟩:=id hyn
 obtain⟨Ay2,cy2,rfl,_⟩:=id hyd
 have B3:=B2.trans (b3.mono B2.size)
 go_wp2_with fail
 obtain⟨w4,e4,o4,b4,s4⟩:=layA w3 [.bool (decide (y.num<0)),.slice Ay1 (digs Qb y.num.natAbs).length cy1,.slice Ay2 (digs Qb (Qm y.den)).length cy2] 32
 rw[e4]
 clear e4
 have B4:=B3.trans (b4.mono B3.size)
 have hx:=(hx.below b3).below b4
 have hy:=hy.below b4
 have o2:=(o2.gone b3).gone b4
 refine Calls.mono (HC3.out _) ?_
 rintro e w5 ⟨vz,rfl,hz,b5⟩
 obtain⟨vzn,vzd,rfl,hzn,hzd⟩:=id hz
 obtain⟨Az1,cz1,rfl,_⟩:=id hzn
 obtain⟨Az2,cz2,rfl,_⟩:=id hzd
 have B5:=B4.trans (b5.mono B4.size)
 obtain⟨w6,e6,o6,b6,s6⟩:=layA w5 [.bool (decide (z.num<0)),.slice Az1 (digs Qb z.num.natAbs).length cz1,.slice Az2 (digs Qb (Qm z.den)).length cz2] 32
 have B6:=B5.trans (b6.mono B5.size)
 have hx:=(hx.below b5).below b6
 have hy:=(hy.below b5).below b6
 have hz:=hz.below b6
 have o2:=(o2.gone b5).gone b6
 have o4:=(o4.gone b5).gone b6
 have j0:=o2.cell (i:=0) rfl
 have j1:=o2.cell (i:=1) rfl
 have j2:=o2.cell (i:=2) rfl
 have k0:=o4.cell (i:=0) rfl
 have k1:=o4.cell (i:=1) rfl
 have k2:=o4.cell (i:=2) rfl
 have l0:=o6.cell (i:=0) rfl
 have l1:=o6.cell (i:=1) rfl
 have l2:=o6.cell (i:=2) rfl
 go_wp2_with fail
 have hc:=sub_num w6 _ _ x y hx hy HB.out.1 HB.out.2.1 (by omega)
 rw[HD.out]at hc
 refine Calls.mono hc ?_
 clear hc j0 j1 j2 k0 k1 k2 l0 l1 l2
 rintro e w7 ⟨vd,rfl,hd,b7⟩
 have B7:=B6.trans (b7.mono B6.size)
 have hz:=hz.below b7
 have o6:=o6.gone b7
 go_wp2_with fail
 refine Calls.mono (Qcb w7 _ d hd HB.out.2.2.2.1 (by omega)) ?_
 rintro e w8 ⟨rfl,b8⟩
 have B8:=B7.trans (b8.mono B7.size)
 have hz:=hz.below b8
 have o6:=o6.gone b8
 have l0:=o6.cell (i:=0) rfl
 have l1:=o6.cell (i:=1) rfl
 have l2:=o6.cell (i:=2) rfl
 go_wp2_with fail
 have hc:=floor_num w8 _ z hz HB.out.2.2.1 (by omega)
 rw[HF.out]at hc
 refine Calls.mono hc ?_
 clear hc
 rintro e w9 ⟨vf,rfl,hf,b9⟩
 have B9:=B8.trans (b9.mono B8.size)
 go_wp2_with fail
 refine Calls.mono (Qcb w9 _ f hf HB.out.2.2.2.2 (by omega)) ?_
 rintro e wa ⟨rfl,ba⟩
 go_wp2
 go_ret
 exact⟨rfl,B9.trans (ba.mono B9.size)⟩
end Wx

namespace Wx
open Go Go.RowKit

theorem wp_joinT {P:Program} {Q:Exit→Act→World→Prop} {K:Act→World→Prop} {a:Act} {w:World} {x:Code} (J:Act→World→Prop) (h1:x.wp P (Exit.then J Q) a w) (h2:∀a w,J a w→K a w):x.wp P (Exit.then K Q) a w:=
 Go.wp_mono h1 fun e a w h=>by
  cases e with
  |normal=>exact h2 a w h
  |exit n=>exact h
  |goto l=>exact h
  |ret=>exact h
  |panic c=>exact h
  |outgrown=>exact h
end Wx

namespace Wx
open Go Go.RowKit

def StepsK (P:Program) (ops:Array Oper) (K:Nat→Act→World→Prop):Nat→List Oper→Prop
 |_,[]=>True
 |m,o::os=>(∀a w,K m a w→DoesG P ops o a w (K (m+1)))∧StepsK P ops K (m+1) os
theorem StepsK.get {P:Program} {ops:Array Oper} {K:Nat→Act→World→Prop}:∀{os:List Oper} {m:Nat},StepsK P ops K m os→∀{j:Nat} {o:Oper},os[j]?=some o→∀a w,K (m+j) a w→DoesG P ops o a w (K (m+j+1)):=by
 intro os
 induction os with
 |nil=>intro m _ j o h; simp at h
 |cons o' os ih=>
  intro m hs j o h
  cases j with
  |zero=>simp at h; subst h; exact hs.1
  |succ j=>
   have:=ih hs.2 (j:=j) (o:=o) (by simpa using h)
   rw[show m+(j+1)=m+1+j by omega]
   exact this
def lastB (ms:List Nat) (k n:Nat):Bool:=(List.range n).all fun i=>decide (i<k)||(List.range i).all fun j=>(ms.getD i 0).testBit j
theorem Qc6 {ms:List Nat} {k n i j:Nat} (h:lastB ms k n=true) (hi:i<n) (hk:k≤i) (hj:j<i):(ms.getD i 0).testBit j=true:=by
 unfold lastB at h
 rw[List.all_eq_true]at h
 have:=h i (by simpa using hi)
 rw[Bool.or_eq_true,decide_eq_true_eq,List.all_eq_true]at this
 rcases this with h1|h1
 ·omega
 ·exact h1 j (by simpa using hj)
section
variable {P:Program} {Q:Exit→Act→World→Prop} {c:Cfg} {V:List Vr} {A:List Al} {G:List Ent} {a:Act} {w:World}
theorem wfB_part {N k:Nat} {l:List Oper} (h:Wy N (l.take k) V A G=true) {i:Nat} {o:Oper} (hi:l[i]?=some o) (hk:i<k):WfAt N l.toArray V A G i o:=by
 have h1:=wfB_at h (i:=i) (o:=o) (by rw[List.getElem?_take,if_pos hk]; exact hi)
 have hm:=Ul h
 refine⟨h1.sz,h1.sg,h1.aa,h1.g1,h1.g2,fun e j he ht=>?_,h1.gu,h1.a1,h1.a2,h1.v1,h1.v2,h1.vk,h1.vb,h1.vs,h1.vu,h1.vo⟩
 have h2:=h1.g3 e j he ht
 rw[← h2]
 simp only[marksB,Bool.and_eq_true,List.all_eq_true]at hm
 have h3:=(hm.2 e he).1
 rw[ht]at h3
 simp only[tagOk,decide_eq_true_eq,List.length_take]at h3
 congr 1
 simp only[List.getElem?_toArray]
 rw[List.getElem?_take,if_pos (by omega)]
theorem region_split {id:Nat} {l:List Oper} (ms:List Nat) (k:Nat) (hk0:0<k) (hm:P.follows .mixedOrders=true) (hok:Uf l.toArray=true) (hms:masks l=ms) (hlast:lastB ms k l.length=true) (hkn:decide (k≤l.length)=true) (hwf:Wy c.N (l.take k) V A G=true)
  (h0:Inv c V A G Qf a w) (hs:Oks P l.toArray ms c V A G 0 (l.take k)) (K:Nat→Act→World→Prop) (hK:∀a w,Inv c V A G (fun _=>true) a w→K 0 a w) (hst:StepsK P l.toArray K 0 (l.drop k)) (hq:∀a w,K (l.length-k) a w→Q .normal a w):
  (Code.region id l.toArray true).wp P Q a w:=by
 have hkn:=of_decide_eq_true hkn
 have hms2:=masks_ok l
 rw[hms]at hms2
 let J:(Nat→Bool)→Act→World→Prop:=fun L a w=>Qa9 l L∧(((∃j,j<k∧L j=false)∧Inv c V A G L a w)∨((∀j,j<k→L j=true)∧∃m,m≤l.length-k∧(∀i,k≤i→i<l.length→(L i=true↔i<k+m))∧K m a w))
 refine Qcu hm hok J ⟨fun i o _ h=>(by cases h),.inl ⟨⟨0,hk0,rfl⟩,?_⟩⟩ ?_ ?_
 ·obtain⟨β,hβ⟩:=h0
  exact⟨β,hβ.draws⟩
 ·have key:∀(os:List Oper) (i:Nat) (pre:List Oper),l=pre++os→pre.length=i→StepsN P l.toArray Q J i os:=by
   intro os
   induction os with
   |nil=>intro i pre _ _; trivial
   |cons o os ih=>
    intro i pre hl hp
    refine⟨?_,ih (i+1) (pre++[o]) (by rw[hl]; simp) (by simp[hp])⟩
    rintro L a w ⟨hc,hJ⟩ hno hpre
    have hi:l[i]?=some o:=by rw[hl,List.getElem?_append_right (by omega),hp]; simp
    have hil:i<l.length:=by
     rcases Nat.lt_or_ge i l.length with h'|h'
     ·exact h'
     ·rw[List.getElem?_eq_none h']at hi; cases hi
    have hbef:∀j,(ms.getD i 0).testBit j=true→L j=true:=fun j hj=>hms2.2 L hc i o hi hpre j hj
    have hcl:Qa9 l (X3 L i):=by
     intro k' ok hok' hL j hj
     by_cases hki:k'=i
     ·subst hki
      rw[hi]at hok'
      injection hok' with hok'
      subst hok'
      have:=hpre j hj
      unfold X3
      split
      ·rfl
      ·exact this
     ·have:=hc k' ok hok' (upd_of hL hki) j hj
      unfold X3
      split
      ·rfl
      ·exact this
    rcases hJ with⟨⟨j0,hj0,hLj0⟩,hI⟩|⟨hall,m,hmn,hLm,hKm⟩
    ·have hik:i<k:=by
      rcases Nat.lt_or_ge i k with h'|h'
      ·exact h'
      ·have:=hbef j0 (Qc6 hlast hil h' (by omega))
       rw[hLj0]at this; cases this
     have hdet:Det ms i L:=⟨hno,hbef,fun j hj=>by
      cases hL:L j with
      |false=>rfl
      |true=>
       cases hoj:l[j]? with
       |none=>
        have h1:=hms2.1
        rw[List.getD_eq_getElem?_getD,List.getElem?_eq_none (by have:=List.getElem?_eq_none_iff.1 hoj; omega)]at hj
        simp at hj
       |some oj=>
        have:=hms2.2 L hc j oj hoj (fun m hm=>hc j oj hoj hL m hm) i hj
        rw[hno]at this
        cases this⟩
     have hop:=hs.get (j:=i) (o:=o) (by rw[List.getElem?_take,if_pos hik]; exact hi)
     rw[Nat.zero_add]at hop
     refine(hop L a w hI hdet (wfB_part hwf hi hik)).list (K:=Inv c V A G (X3 L i)) fun a' w' h'=>⟨hcl,?_⟩
     by_cases hfull:∀j,j<k→X3 L i j=true
     ·refine .inr ⟨hfull,0,Nat.zero_le _,fun q hq hql=>?_,hK a' w' ?_⟩
      ·have hLq:L q=false:=by
        cases hLq:L q with
        |false=>rfl
        |true=>
         cases hoq:l[q]? with
         |none=>rw[List.getElem?_eq_none_iff]at hoq; omega
         |some oq=>
          have:=hms2.2 L hc q oq hoq (fun m hm=>hc q oq hoq hLq m hm) j0 (Qc6 hlast hql hq (by omega))
          rw[hLj0]at this; cases this
       have:X3 L i q=L q:=by unfold X3; rw[if_neg (by omega)]
       rw[this,hLq]
       constructor
       ·intro h; cases h
       ·intro h; omega
      ·obtain⟨β,hI'⟩:=h'
       refine⟨β,hI'.congr (Ul hwf) fun j hj=>?_⟩
       rw[List.length_take]at hj
       exact hfull j (by omega)
     ·refine .inl ⟨?_,h'⟩
      rw[Classical.not_forall]at hfull
      obtain⟨j,hj⟩:=hfull
      rw[Classical.not_imp]at hj
      exact⟨j,hj.1,Bool.not_eq_true _▸hj.2⟩
    ·have hki:k≤i:=by
      rcases Nat.lt_or_ge i k with h'|h'
      ·rw[hall i h']at hno; cases hno
      ·exact h'
     have him:i=k+m:=by
      have h1:¬i<k+m:=fun h=>by rw[(hLm i hki hil).2 h]at hno; cases hno
      rcases Nat.lt_or_ge (k+m) i with h2|h2
      ·have h3:=hbef (k+m) (Qc6 hlast hil hki h2)
       have:=(hLm (k+m) (by omega) (by omega)).1 h3
       omega
      ·omega
     have ho:(l.drop k)[m]?=some o:=by rw[List.getElem?_drop,← him]; exact hi
     have hst':=hst.get ho a w (by rw[Nat.zero_add]; exact hKm)
     rw[Nat.zero_add]at hst'
     refine hst'.list (K:=K (m+1)) fun a' w' h'=>⟨hcl,.inr ⟨fun j hj=>?_,m+1,by omega,fun q hq hql=>?_,h'⟩⟩
     ·unfold X3
      split
      ·rfl
      ·exact hall j hj
     ·unfold X3
      split
      ·rename_i e
       constructor
       ·intro _; omega
       ·intro _; rfl
      ·rename_i e
       rw[hLm q hq hql]
       omega
  exact key l 0 [] rfl rfl
 ·rintro L a w ⟨_,hJ⟩ hall
  rcases hJ with⟨⟨j,hj,hL⟩,_⟩|⟨_,m,hmn,hLm,hKm⟩
  ·rw[hall j (by omega)]at hL; cases hL
  ·have hme:m=l.length-k:=by
    rcases Nat.lt_or_ge m (l.length-k)with h'|h'
    ·have:=(hLm (k+m) (by omega) (by omega)).1 (hall (k+m) (by omega))
     omega
    ·omega
   subst hme
   exact hq a w hKm
theorem region_splitT {id:Nat} {l:List Oper} (k:Nat) (hkn:decide (k≤l.length)=true) (hwf:Wy c.N (l.take k) V A G=true)
  (h0:Inv c V A G Qf a w) (hs:Oks P l.toArray (Ym l.length) c V A G 0 (l.take k)) (K:Nat→Act→World→Prop) (hK:∀a w,Inv c V A G (fun _=>true) a w→K 0 a w) (hst:StepsK P l.toArray K 0 (l.drop k)) (hq:∀a w,K (l.length-k) a w→Q .normal a w):
  (Code.region id l.toArray false).wp P Q a w:=by
 have hkn:=of_decide_eq_true hkn
 refine wp_region_lit ?_
 have tailK:∀(os:List Oper) (m:Nat),StepsK P l.toArray K m os→(∀a w,K (m+os.length) a w→Q .normal a w)→∀a w,K m a w→wpList P l.toArray Q os a w:=by
  intro os
  induction os with
  |nil=>intro m _ hq a w h; exact hq a w h
  |cons o os ih=>
   intro m hs hq a w h
   refine(hs.1 a w h).list fun a' w' h'=>ih (m+1) hs.2 (fun a w hk=>hq a w ?_) a' w' h'
   rw[List.length_cons,show m+(os.length+1)=m+1+os.length by omega]
   exact hk
 have tl:∀a w,K 0 a w→wpList P l.toArray Q (l.drop k) a w:=tailK (l.drop k) 0 hst (fun a w h=>hq a w (by rw[Nat.zero_add,List.length_drop]at h; exact h))
 have key:∀(os:List Oper) (i:Nat) (pre:List Oper),l.take k=pre++os→pre.length=i→Oks P l.toArray (Ym l.length) c V A G i os→∀(a:Act) (w:World),Inv c V A G (fun j=>decide (j<i)) a w→wpList P l.toArray Q (os++l.drop k) a w:=by
  intro os
  induction os with
  |nil=>
   rintro i pre hl hp _ a w ⟨β,hI⟩
   refine tl a w (hK a w ⟨β,hI.congr (Ul hwf) fun j hj=>?_⟩)
   rw[hl]at hj
   simp at hj
   simp; omega
  |cons o os ih=>
   rintro i pre hl hp hs a w hI
   have hi':(l.take k)[i]?=some o:=by rw[hl,List.getElem?_append_right (by omega),hp]; simp
   have hik:i<k:=by
    rcases Nat.lt_or_ge i k with h'|h'
    ·exact h'
    ·rw[List.getElem?_take,if_neg (by omega)]at hi'; cases hi'
   have hi:l[i]?=some o:=by rw[List.getElem?_take,if_pos hik]at hi'; exact hi'
   have hlen:i<l.length:=by
    rcases Nat.lt_or_ge i l.length with h'|h'
    ·exact h'
    ·rw[List.getElem?_eq_none h']at hi; cases hi
   have tm:∀k j,((Ym l.length).getD k 0).testBit j=true→j<k:=by
    intro k j h
    rcases Nat.lt_or_ge k l.length with h'|h'
    ·have e:(Ym l.length).getD k 0=2^k-1:=by simp[Ym,h']
     rw[e,Nat.testBit_two_pow_sub_one]at h
     simpa using h
    ·have e:(Ym l.length).getD k 0=0:=by simp[Ym,Nat.not_lt.2 h']
     rw[e]at h
     simp at h
   have hdet:Det (Ym l.length) i (fun j=>decide (j<i)):=⟨by simp,fun j hj=>by simpa using tm i j hj,fun j hj=>by have:=tm j i hj; simp; omega⟩
   refine(hs.1 _ a w hI hdet (wfB_part hwf hi hik)).list fun a' w' h'=>ih (i+1) (pre++[o]) (by rw[hl]; simp) (by simp[hp]) hs.2 a' w' ?_
   have e:X3 (fun j=>decide (j<i)) i=(fun j=>decide (j<i+1)):=by
    funext j
    unfold X3
    by_cases h:j=i
    ·simp[h]
    ·rw[if_neg h]
     by_cases h2:j<i
     ·simp[h2]; omega
     ·simp[h2]; omega
   rw[← e]
   exact h'
 have:=key (l.take k) 0 [] rfl rfl hs a w (by
  have e:(fun j=>decide (j<0))=Qf:=by funext j; simp
  rw[e]
  exact h0)
 rwa [List.take_append_drop]at this
end
end Wx
