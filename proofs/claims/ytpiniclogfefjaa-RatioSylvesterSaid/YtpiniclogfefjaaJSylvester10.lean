import Derived.Deep.DeepMust
import Derived.Test.YtpiniclogfefjaaCSylvesterDiv64
namespace Wx
open Go Go.RowKit Go.Proofs

def win (L:List Nat) (j n:Nat):List Nat:=(L.drop j).take n
theorem Vq {L:List Nat} {j n:Nat} (h:j+n≤L.length):(win L j n).length=n:=by unfold win; simp; omega
theorem Qbg {L:List Nat} {j n i:Nat} (hi:i<n):(win L j n)[i]?=L[j+i]?:=by
 unfold win; rw[List.getElem?_take_of_lt hi,List.getElem?_drop]
theorem win_wf {b:Nat} {L:List Nat} (h:Wf b L) (j n:Nat):Wf b (win L j n):=(h.drop j).take n
theorem win_set {L:List Nat} {j n i v:Nat}:win (L.set (j+i) v) j n=(win L j n).set i v:=by
 unfold win
 rw[List.drop_set,if_neg (by omega),show j+i-j=i by omega,List.take_set]
theorem Row.win {w:World} {k:IntKind} {e:TypeId} {g:Nat} {L:List Nat} (h:Row w k e g L) {j n c:Nat} (hj:j+n≤L.length) (hc:n≤c) (hm:c≤maxLen):Rd w k (some ⟨g,j,none⟩) c (win L j n):=by
 have hl:=Vq hj
 refine⟨by omega,hm,fun _=>⟨g,j,rfl,fun i hi=>?_⟩⟩
 rw[hl]at hi
 rw[h.cell (i:=j+i) (by omega),List.getD_eq_getElem?_getD,List.getD_eq_getElem?_getD,Qbg hi]

def RdB (w:World) (B:Nat) (k:IntKind) (A:Option Addr) (c:Nat) (l:List Nat):Prop:=Rd w k A c l∧(l≠[]→∀a,A=some a→a.block<B)
theorem RdB.grown {w w':World} {B g:Nat} {k:IntKind} {A:Option Addr} {c:Nat} {l:List Nat} (h:RdB w B k A c l) (hg:w.grownBy w' (some g)) (hB:B≤g):RdB w' B k A c l:=by
 obtain⟨⟨h1,h2,h3⟩,h4⟩:=h
 refine⟨⟨h1,h2,fun hne=>?_⟩,h4⟩
 obtain⟨b,o,e,hc⟩:=h3 hne
 refine⟨b,o,e,fun i hi=>?_⟩
 have hb:=h4 hne _ e
 exact hg.cell (hc i hi) (by simp at hb ⊢; omega)
theorem RdB.grown' {w w':World} {B:Nat} {row:Option Nat} {k:IntKind} {A:Option Addr} {c:Nat} {l:List Nat} (h:RdB w B k A c l) (hg:w.grownBy w' row) (hB:∀g,row=some g→B≤g):RdB w' B k A c l:=by
 obtain⟨⟨h1,h2,h3⟩,h4⟩:=h
 refine⟨⟨h1,h2,fun hne=>?_⟩,h4⟩
 obtain⟨b,o,e,hc⟩:=h3 hne
 refine⟨b,o,e,fun i hi=>?_⟩
 have hb:=h4 hne _ e
 refine hg.cell (hc i hi) (fun e=>?_)
 have:=hB _ e.symm
 simp at hb this
 omega
theorem RdB.of {w:World} {k:IntKind} {A:Option Addr} {c:Nat} {l:List Nat} (h:Rd w k A c l):RdB w w.heap.size k A c l:=by
 refine⟨h,fun hne a ha=>?_⟩
 obtain⟨b,o,e,hc⟩:=h.2.2 hne
 rw[e]at ha
 injection ha with ha
 subst ha
 have hl:0<l.length:=List.length_pos_iff.2 hne
 exact World.block_lt_of_cell? w _ (hc 0 hl)
theorem Jb {w w':World} (h:Below w.heap.size w w') (row:Option Nat):w.grownBy w' row:=
 ⟨h.os,h.tape,h.output,h.size,fun k hk _=>h.block k hk⟩
theorem Qal {w w1 w2:World} {row:Option Nat} (h:w.grownBy w1 row) (k:w1.grownBy w2 row):w.grownBy w2 row:=
 ⟨k.os.trans h.os,k.tape.trans h.tape,k.output.trans h.output,Nat.le_trans h.size k.size,fun i hi hn=>(k.block i (Nat.lt_of_lt_of_le hi h.size) hn).trans (h.block i hi hn)⟩
theorem grown_set (w:World) (g i:Nat) (v:Value):w.grownBy (w.setCell ⟨g,i,none⟩ v) (some g):=
 ⟨rfl,rfl,rfl,by simp[World.setCell],fun k _ hk=>Below.heap_setCell w ⟨g,i,none⟩ v k (fun e=>hk (by simp[e]))⟩
theorem Qes (w:World) (n:Nat) (row:Option Nat):w.grownBy (w.drewN n) row:=⟨rfl,rfl,rfl,Nat.le_refl _,fun _ _ _=>rfl⟩
theorem take_round {w0 wr:World} {g:Nat} {v o:List Nat} {i c vx q:Nat} (hol:o.length=i) (hi:i<v.length) (hx:v[i]?=some vx) (hwv:Wf Qb v) (hwo:Wf Qb o) (hc:c<Qb) (hq:q<Qb)
  (hr:Row wr .u64 81 g (o++List.replicate (v.length+1-i) 0)) (hg:w0.heap.size≤g) (hbl:Below w0.heap.size w0 wr) (hval:Ql Qb o+Qb^i*c=Ql Qb (v.take i)*q):
  ∃(c':Nat) (o':List Nat),IntKind.u64.wrap ((muHi vx q:Nat)+(adHi (muLo vx q) c:Nat))=(c':Int)∧c'<Qb∧o'.length=i+1∧Wf Qb o' ∧
   Row (wr.setCell ⟨g,i,none⟩ (.int .u64 (adLo (muLo vx q) c:Nat))) .u64 81 g (o'++List.replicate (v.length+1-(i+1)) 0)∧Below w0.heap.size w0 (wr.setCell ⟨g,i,none⟩ (.int .u64 (adLo (muLo vx q) c:Nat))) ∧
   Ql Qb o'+Qb^(i+1)*c'=Ql Qb (v.take (i+1))*q:=by
 have hvx:vx<Qb:=hwv _ (List.mem_of_getElem? hx)
 have h1:=mu_spec vx q
 have h2:=ad_spec (muLo vx q) c
 have h3:=adLo_lt (muLo vx q) c
 have hxq:vx*q≤18446744073709551615*18446744073709551615:=Nat.mul_le_mul (by unfold Qb at hvx; omega) (by unfold Qb at hq; omega)
 have hlt:muHi vx q+adHi (muLo vx q) c<Qb:=by
  unfold Qb at *
  generalize vx*q=p at *
  omega
 refine⟨_,o++[adLo (muLo vx q) c],?_,hlt,by simp[hol],hwo.append (Wf.cons h3 (Wf.nil _)),?_,hbl.setCell hg _,?_⟩
 ·rw[wrap_u64 (by omega) (by unfold Qb at hlt; omega)]; omega
 ·have h:=hr.set i (adLo (muLo vx q) c)
  rw[show v.length+1-i=(v.length+1-(i+1))+1 by omega,List.replicate_succ,Qcv hol]at h
  rw[List.append_assoc]
  exact h
 ·rw[Qby,hol,Z4 hx,Nat.add_mul,← hval,Nat.pow_succ]
  have e:Qb^i*(adLo (muLo vx q) c+Qb*(muHi vx q+adHi (muLo vx q) c))=Qb^i*(vx*q+c):=by
   congr 1
   unfold Qb
   rw[← h1]
   omega
  rw[Nat.mul_add (Qb^i) (adLo (muLo vx q) c),Nat.mul_add (Qb^i) (vx*q),← Nat.mul_assoc (Qb^i) Qb]at e
  rw[Nat.mul_assoc (Qb^i) vx q]
  omega

theorem sub64_run (x y c:Nat) (hc:c≤1):∀w:World,(callFunc 68 #[.int .u64 (x:Int),.int .u64 (y:Int),.int .u64 (c:Int)]).run Try.prog w=.ok (.value (.tuple #[.int .u64 (K0 x y c:Nat),.int .u64 (Ww x y c:Nat)])) w:=by
 intro w
 rw[run_callFunc_extern Try.func68 (by kernel_rfl) (by kernel_rfl) (by kernel_rfl) (e:=subEntry) (by kernel_rfl),Qef x y c hc]
 rfl
theorem sub_window {M L P:List Nat} {j n i br vu vp:Nat} (hml:M.length=L.length) (hj:j+n≤L.length) (hi:i<n) (hu:M[j+i]?=some vu) (hp:P[i]?=some vp) (hd:M.drop (j+i)=L.drop (j+i))
  (hvu:vu<Qb) (hvp:vp<Qb) (hbr:br≤1) (hval:Ql Qb ((win M j n).take i)+Ql Qb (P.take i)=Ql Qb ((win L j n).take i)+Qb^i*br):
  Ql Qb ((win (M.set (j+i) (K0 vu vp br)) j n).take (i+1))+Ql Qb (P.take (i+1))=Ql Qb ((win L j n).take (i+1))+Qb^(i+1)*Ww vu vp br:=by
 have hs:=(sub_spec (c:=br) hvu hvp hbr).1
 have hwu:(win M j n)[i]?=some vu:=by rw[Qbg hi]; exact hu
 have hlu:(win L j n)[i]?=some vu:=by
  rw[Qbg hi]
  have:(M.drop (j+i))[0]?=(L.drop (j+i))[0]?:=by rw[hd]
  rw[List.getElem?_drop,List.getElem?_drop,Nat.add_zero]at this
  rw[← this]; exact hu
 have hwl:=Vq (L:=M) (j:=j) (n:=n) (by omega)
 rw[win_set,Z4 hp,Z4 hlu]
 rw[Z4 (l:=(win M j n).set i (K0 vu vp br)) (v:=K0 vu vp br) (by rw[List.getElem?_set_self (by omega)]),List.take_set_of_le (Nat.le_refl _),Nat.pow_succ]
 have e:Qb^i*(K0 vu vp br+vp+br)=Qb^i*(vu+Qb*Ww vu vp br):=by rw[hs]; rfl
 rw[Nat.mul_add,Nat.mul_add,Nat.mul_add,← Nat.mul_assoc]at e
 omega
def TakePost (w:World) (g j n:Nat) (L:List Nat) (p:Nat) (e:Ending) (w':World):Prop:=
 (Ql Qb (win L j (n+1))<p∧e=.returned (.bool false)∧Below w.heap.size w w') ∨
 (p≤Ql Qb (win L j (n+1))∧e=.returned (.bool true)∧w.grownBy w' (some g) ∧
  ∃L',L'.length=L.length∧Wf Qb L'∧Row w' .u64 81 g L'∧L'.take j=L.take j∧L'.drop (j+(n+1))=L.drop (j+(n+1))∧Ql Qb (win L' j (n+1))+p=Ql Qb (win L j (n+1)))

set_option maxHeartbeats 1000000 in
theorem take_num (w:World) (B g j cu:Nat) (L v:List Nat) (A:Option Addr) (cv q:Nat) (hR:Row w .u64 81 g L) (hwL:Wf Qb L) (hj:j+(v.length+1)≤L.length) (hcu:v.length+1≤cu) (hcm:cu≤maxLen)
  (hv:RdB w B .u64 A cv v) (_hB:B≤g) (hwv:Wf Qb v) (hq:q<Qb) (hn:v.length≤1000000000):
  Calls Try.prog 93 #[.slice (some ⟨g,j,none⟩) (v.length+1) cu,.slice A v.length cv,.int .u64 (q:Int)] w (TakePost w g j v.length L (Ql Qb v*q)):=by
 have hvl:=hv.1.len
 have HQ:=Lib.hid hq
 have hcm':cu≤9223372036854775807:=by unfold maxLen at hcm; omega
 clear hq
 go_enter Try.func93,Try.ntmps93
 go_wp2_with (at_make; refine Wd _ rfl _ _ _ rfl .u64 81 Try.underlying30 Vu _ _ rfl rfl (by omega) (by omega) (by omega) ?_; intro w1 hrow hbel hsz)
 rw[show((v.length:Int)+1).toNat=v.length+1 by omega]at hrow
 go_loopw [8,22] (fun s8 s22 wr=>∃(i c:Nat) (o:List Nat),i≤v.length∧s22=.int .i64 i∧s8=.int .u64 c∧c<Qb∧o.length=i∧Wf Qb o∧Row wr .u64 81 w.heap.size (o++List.replicate (v.length+1-i) 0)∧Below w.heap.size w wr∧Ql Qb o+Qb^i*c=Ql Qb (v.take i)*q)
  (fun _ s22 _=>v.length-(intOf s22).toNat)
 case atStart=>exact⟨0,0,[],by omega,rfl,rfl,by unfold Qb; omega,rfl,Wf.nil _,by simpa using hrow,hbel,by simp[Ql]⟩
 case round=>
  obtain⟨i,c,o,hi,rfl,rfl,hc,hol,hwo,hr,hbl,hval⟩:=hrel
  have HVAL:=Lib.hid hval
  have HOL:=Lib.hid hol
  have HC:=Lib.hid hc
  clear hval hol hc hrow hbel hsz
  by_cases hlt:i<v.length
  ·obtain⟨bx,ox,vx,rfl,hcx,HVX⟩:=(hv.1.below hbl).get hlt
   obtain⟨vo,hco,HVO⟩:=hr.get (i:=i) (by have:=HOL.out; simp; omega)
   have hcf:=hr.frozen i
   have HLX:Hid (vx<Qb):=hwv _ (List.mem_of_getElem? HVX.out)
   go_wp2_with (first|(go_at_call 65; refine(K8 vx q HLX.out HQ.out _).mono ?_; rintro e w' ⟨rfl,rfl⟩)|((with_reducible refine Wo 66 rfl rfl ?_); refine Qba rfl rfl rfl ?_))
   go_roundw
   case rel=>
    obtain⟨c',o2,e,r⟩:=take_round HOL.out hlt HVX.out hwv hwo HC.out HQ.out hr (Nat.le_refl _) hbl HVAL.out
    exact⟨i+1,c',o2,by omega,by go_num,by rw[e],r⟩
   case measure=>simp[intOf]; omega
  ·obtain rfl:i=v.length:=by omega
   rw[show v.length+1-v.length=1 by omega,show List.replicate 1 0=[0]from rfl]at hr
   obtain⟨vo,hco,HVO⟩:=hr.get (i:=v.length) (by have:=HOL.out; simp; omega)
   have hcf:=hr.frozen v.length
   have HP:Hid (Ql Qb (o++[c])=Ql Qb v*q):=by
    show _=_
    have h:=HVAL.out
    rw[List.take_length]at h
    rw[Qby,HOL.out]; exact h
   have hRP:=hr.set v.length c
   rw[Qcv HOL.out]at hRP
   have hwP:Wf Qb (o++[c]):=hwo.append (Wf.cons HC.out (Wf.nil _))
   have HPL:Hid ((o++[c]).length=v.length+1):=by show _=_; simp[HOL.out]
   have hb2:=hbl.setCell (p:=⟨w.heap.size,v.length,none⟩) (Nat.le_refl _) (.int .u64 (c:Int))
   generalize o++[c]=P at *
   clear HVAL HOL hwo hr HVO
   have hgl:=hR.lt
   go_wp2_with fail
   obtain⟨w2,hw2⟩:∃w2,w2=wr.setCell ⟨w.heap.size,v.length,none⟩ (.int .u64 (c:Int)):=⟨_,rfl⟩
   rw[← hw2]at hRP hb2 ⊢
   clear hw2 hbl hcf hco
   have hR2:=hR.keep hb2
   refine(Vk _ _ _ (win L j (v.length+1)) _ (hR2.win hj hcu hcm) (win_wf hwL _ _) _ (Vq hj) rfl).mono ?_
   rintro e w' ⟨rfl,x1,rfl,hx1⟩
   go_wp2_with fail
   refine(Vk _ _ _ P _ (hRP.rd_all (c:=v.length+1) (by have:=HPL.out; omega) (by unfold maxLen; omega)) hwP _ HPL.out HP.out).mono ?_
   rintro e w' ⟨rfl,x2,rfl,hx2⟩
   go_wp2_with fail
   refine(Wp _ _ _ _ _ hx1 hx2).mono ?_
   rintro e w3 ⟨rfl,hb3⟩
   clear hx1 hx2
   have hb23:=hb2.trans (hb3.mono hb2.size)
   have hR3:=hR2.keep hb3
   have hRP3:=hRP.keep hb3
   clear hR2 hRP hb2 hb3
   by_cases hlt:Ql Qb (win L j (v.length+1))<Ql Qb v*q
   ·have e1:Yv (Ql Qb (win L j (v.length+1))) (Ql Qb v*q) = -1:=by unfold Yv; rw[if_pos hlt]
    rw[e1]
    go_wp2
    go_ret
    exact .inl ⟨hlt,rfl,hb23⟩
   ·have e1:∃z:Int,z=Yv (Ql Qb (win L j (v.length+1))) (Ql Qb v*q)∧¬(z<0):=⟨_,rfl,by unfold Yv; rw[if_neg hlt]; split<;>omega⟩
    obtain⟨z,hz,hz0⟩:=e1
    rw[← hz]
    clear hz
    go_wp2_with fail
    have hPl:=HPL.out
    have HLT:=Lib.hid hlt
    have HSZ:Hid (w.heap.size≠g):=by show _≠_; omega
    have hg3:=Jb hb23 (some g)
    clear hlt hb23 hR
    go_loopw [14,59] (fun s14 s59 wr=>∃(i br:Nat) (M:List Nat),i≤v.length+1∧s59=.int .i64 i∧s14=.int .u64 br∧br≤1∧Hid (M.length=L.length)∧Wf Qb M∧Row wr .u64 81 g M∧Row wr .u64 81 w.heap.size P∧w.grownBy wr (some g)∧M.take j=L.take j∧M.drop (j+i)=L.drop (j+i) ∧
      Hid (Ql Qb ((win M j (v.length+1)).take i)+Ql Qb (P.take i)=Ql Qb ((win L j (v.length+1)).take i)+Qb^i*br))
     (fun _ s59 _=>v.length+1-(intOf s59).toNat)
    case atStart=>exact⟨0,0,L,by omega,rfl,rfl,by omega,rfl,hwL,hR3,hRP3,hg3,rfl,rfl,rfl⟩
    case round=>
     obtain⟨i,br,M,hi,rfl,rfl,hbr,HML,hwM,hrM,hrP,hgr,htk,hdr,HV⟩:=hrel
     have HTK:=Lib.hid htk
     have HDR:=Lib.hid hdr
     clear htk hdr hR3 hRP3 hg3
     by_cases hlt:i<v.length+1
     ·obtain⟨vu,hcu1,HVU⟩:=hrM.get (i:=j+i) (by have:=HML.out; omega)
      obtain⟨vp,hcp,HVP⟩:=hrP.get (i:=i) (by omega)
      have hcf:=hrM.frozen (j+i)
      have e1:(0:Int)≤(i:Int):=by omega
      have e2:(i:Int)<(v.length:Int)+1:=by omega
      have hsub:=sub64_run vu vp br hbr
      go_wp2
      go_region
      all_goals go_wp2
      all_goals
       go_roundw
       case rel=>
        have hgl2:g≠w.heap.size:=by omega
        refine⟨i+1,Ww vu vp br,M.set (j+i) (K0 vu vp br),by omega,by go_num,rfl,subHi_le _ _ _,?_,hwM.set (sub_spec (hwM _ (List.mem_of_getElem? HVU.out)) (hwP _ (List.mem_of_getElem? HVP.out)) hbr).2,(hrM.set _ _).drew,(hrP.far (p:=⟨g,j+i,none⟩) (by exact hgl2.symm) _).drew,Qal (Qal hgr (grown_set _ _ _ _)) (Qes _ 1 _),?_,?_,?_⟩
        ·show _=_; rw[List.length_set]; exact HML.out
        ·rw[List.take_set_of_le (by omega)]; exact HTK.out
        ·rw[Qck (by omega),show j+(i+1)=j+i+1 by omega,← List.drop_drop,← List.drop_drop (l:=L),HDR.out]
        ·show _=_
         exact sub_window HML.out hj hlt HVU.out HVP.out HDR.out (hwM _ (List.mem_of_getElem? HVU.out)) (hwP _ (List.mem_of_getElem? HVP.out)) hbr HV.out
       case measure=>simp[intOf]; omega
     ·obtain rfl:i=v.length+1:=by omega
      go_wp2
      go_ret
      have h:=HV.out
      have l1:=Vq (L:=M) (j:=j) (n:=v.length+1) (by have:=HML.out; omega)
      have l2:=Vq (L:=L) (j:=j) (n:=v.length+1) hj
      rw[List.take_of_length_le (by omega),List.take_of_length_le (l:=P) (by omega),List.take_of_length_le (l:=win L j (v.length+1)) (by omega)]at h
      have hP:=HP.out
      have hlt':=V3 (win_wf hwM j (v.length+1))
      rw[l1]at hlt'
      have hnlt:=HLT.out
      have hbr0:br=0:=by
       rcases Nat.eq_zero_or_pos br with h0|h0
       ·exact h0
       ·obtain rfl:br=1:=by omega
        omega
      subst hbr0
      exact .inr ⟨by omega,rfl,hgr,M,HML.out,hwM,hrM,HTK.out,HDR.out,by omega⟩
end Wx

namespace Wx
set_option maxRecDepth 100000
open Go Go.RowKit Go.Proofs

theorem Qbz {b:Nat} {l:List Nat} {n x:Nat} (hn:l.length=n+1) (hx:l[n]?=some x):Ql b l=x*b^n+Ql b (l.take n):=by
 have h:=Z4 (b:=b) hx
 rw[List.take_of_length_le (by omega)]at h
 rw[h,Nat.mul_comm,Nat.add_comm]

theorem digit_facts {v:List Nat} {n un un1 un2 v1 v2:Nat} {L:List Nat} {j:Nat} (hnn:v.length=n+2) (hj:j+(v.length+1)≤L.length) (hu:(win L j (v.length+1))[n+2]?=some un) (hu1:(win L j (v.length+1))[n+1]?=some un1) (hu2:(win L j (v.length+1))[n]?=some un2)
  (hv1:v[n+1]?=some v1) (hv2:v[n]?=some v2) (wu:Wf Qb (win L j (v.length+1))) (ht:Top v) (hlt:Ql Qb (win L j (v.length+1))<Ql Qb v*Qb):
  Ql Qb (win L j (v.length+1))/Ql Qb v≤(un*Qb+un1)/v1 ∧
  (∀g r,un*Qb+un1=g*v1+r→r*Qb+un2<g*v2→Ql Qb (win L j (v.length+1))/Ql Qb v<g)∧Ql Qb (win L j (v.length+1))/Ql Qb v<Qb∧0<v1:=by
 have hul:=Vq hj
 generalize win L j (v.length+1)=u at *
 have hv0:0<v1:=by
  rcases Nat.eq_zero_or_pos v1 with rfl|h
  ·exfalso; apply ht
   rw[List.getLast?_eq_getElem?,hnn]
   exact hv1
  ·exact h
 have hp:∀k,0<Qb^k:=fun k=>Nat.pow_pos (by unfold Qb; omega)
 have hU0:=Qbz (b:=Qb) (n:=n+2) (by omega) hu
 have hU1:=Qbz (b:=Qb) (l:=u.take (n+2)) (n:=n+1) (by simp; omega) (by rw[List.getElem?_take_of_lt (by omega)]; exact hu1)
 have hU2:=Qbz (b:=Qb) (l:=u.take (n+1)) (n:=n) (by simp; omega) (by rw[List.getElem?_take_of_lt (by omega)]; exact hu2)
 rw[List.take_take,Nat.min_eq_left (by omega)]at hU1 hU2
 have hV0:=Qbz (b:=Qb) (n:=n+1) (by omega) hv1
 have hV1:=Qbz (b:=Qb) (l:=v.take (n+1)) (n:=n) (by simp; omega) (by rw[List.getElem?_take_of_lt (by omega)]; exact hv2)
 rw[List.take_take,Nat.min_eq_left (by omega)]at hV1
 have e1:Ql Qb u=(un*Qb+un1)*Qb^(n+1)+Ql Qb (u.take (n+1)):=by
  rw[hU0,hU1,Nat.add_mul,Nat.mul_assoc,show Qb*Qb^(n+1)=Qb^(n+2)from Nat.pow_succ'.symm]; omega
 have e2:Ql Qb u=((un*Qb+un1)*Qb+un2)*Qb^n+Ql Qb (u.take n):=by
  rw[e1,hU2,Nat.add_mul _ un2,Nat.mul_assoc _ Qb,show Qb*Qb^n=Qb^(n+1)from Nat.pow_succ'.symm]; omega
 have e3:Ql Qb v=(v1*Qb+v2)*Qb^n+Ql Qb (v.take n):=by
  rw[hV0,hV1,Nat.add_mul,Nat.mul_assoc,show Qb*Qb^n=Qb^(n+1)from Nat.pow_succ'.symm]; omega
 have hVp:0<Ql Qb v:=by rw[hV0]; have:=Nat.mul_pos hv0 (hp (n+1)); omega
 have l1:=V3 (wu.take (n+1))
 rw[List.length_take,Nat.min_eq_left (by omega)]at l1
 have l2:=V3 (wu.take n)
 rw[List.length_take,Nat.min_eq_left (by omega)]at l2
 refine⟨est_le (hp _) e1 l1 hV0 hv0,fun g r hN ht=>est_dec e2 l2 e3 hVp hN ht,?_,hv0⟩
 rw[Nat.div_lt_iff_lt_mul hVp,Nat.mul_comm]; exact hlt

theorem div64_quiet (w:World) (k n hi lo y:Nat) (hlo:lo<Qb) (hy:y<Qb) (hhi:hi<y):
  Calls Try.prog 86 #[.int .u64 (hi:Int),.int .u64 (lo:Int),.int .u64 (y:Int)] (w.drewN (k+n)) fun e w''=>e=.returned (.tuple #[.int .u64 (dvQ hi lo y:Nat),.int .u64 (dvR hi lo y:Nat)])∧∃m,w''=w.drewN (k+m):=
 (div64_dr _ hi lo y hlo hy hhi).mono fun e w' ⟨he,m,hw⟩=>⟨he,n+m,by rw[hw,World.drewN_drewN,Nat.add_assoc]⟩

theorem third_le {gs v2 r un2:Nat} (h:gs*v2≤r*Qb+un2) (hu:un2<Qb):∃hi lo,muHi gs v2=hi∧muLo gs v2=lo∧(hi<r∨(hi=r∧lo≤un2)):=by
 refine⟨_,_,rfl,rfl,?_⟩
 have h1:=mu_spec gs v2
 have h2:=muLo_lt gs v2
 unfold Qb at *
 rcases Nat.lt_trichotomy (muHi gs v2) r with h3|h3|h3
 ·exact .inl h3
 ·refine .inr ⟨h3,?_⟩
  rw[← h1,h3]at h
  omega
 ·exfalso; omega
theorem third_gt {gs v2 r un2:Nat} (h:r*Qb+un2<gs*v2):∃hi lo,muHi gs v2=hi∧muLo gs v2=lo∧(r<hi∨(hi=r∧un2<lo)):=by
 refine⟨_,_,rfl,rfl,?_⟩
 have h1:=mu_spec gs v2
 have h2:=muLo_lt gs v2
 unfold Qb at *
 rcases Nat.lt_trichotomy (muHi gs v2) r with h3|h3|h3
 ·exfalso; omega
 ·refine .inr ⟨h3,?_⟩
  rw[← h1,h3]at h
  omega
 ·exact .inl h3

def DigitPost (w:World) (g j n:Nat) (L:List Nat) (V:Nat) (e:Ending) (w':World):Prop:=
 e=.returned (.int .u64 (Ql Qb (win L j (n+1))/V:Nat))∧w.grownBy w' (some g) ∧
  ∃L',L'.length=L.length∧Wf Qb L'∧Row w' .u64 81 g L'∧L'.take j=L.take j∧L'.drop (j+(n+1))=L.drop (j+(n+1))∧Ql Qb (win L' j (n+1))=Ql Qb (win L j (n+1))%V

set_option maxHeartbeats 1000000 in
theorem digit_num (w:World) (B g j cu:Nat) (L v:List Nat) (A:Option Addr) (cv:Nat) (hR:Row w .u64 81 g L) (hwL:Wf Qb L) (hj:j+(v.length+1)≤L.length) (hcu:v.length+1≤cu) (hcm:cu≤maxLen)
  (hv:RdB w B .u64 A cv v) (hB:B≤g) (hwv:Wf Qb v) (hn:v.length≤1000000000) (hn2:2≤v.length) (htop:Top v) (hlt:Ql Qb (win L j (v.length+1))<Ql Qb v*Qb):
  Calls Try.prog 82 #[.slice (some ⟨g,j,none⟩) (v.length+1) cu,.slice A v.length cv] w (DigitPost w g j v.length L (Ql Qb v)):=by
 have hvl:=hv.1.len
 have hcm':cu≤9223372036854775807:=by unfold maxLen at hcm; omega
 obtain⟨n,hnn⟩:∃n,v.length=n+2:=⟨v.length-2,by omega⟩
 obtain⟨un,hcun,HUN⟩:=hR.get (i:=j+(n+2)) (by omega)
 obtain⟨un1,hcun1,HUN1⟩:=hR.get (i:=j+(n+1)) (by omega)
 obtain⟨un2,hcun2,HUN2⟩:=hR.get (i:=j+n) (by omega)
 obtain⟨bv,ov,v1,rfl,hcv1,HV1⟩:=hv.1.get (i:=n+1) (by omega)
 obtain⟨bv',ov',v2,hae,hcv2,HV2⟩:=hv.1.get (i:=n) (by omega)
 injection hae with hae
 injection hae with h1 h2 h3
 subst h1 h2
 clear h3
 have HNN:=Lib.hid hnn
 rw[hnn]
 obtain⟨f1,f2,f3,f4⟩:=digit_facts hnn hj (by rw[Qbg (by omega)]; exact HUN.out) (by rw[Qbg (by omega)]; exact HUN1.out) (by rw[Qbg (by omega)]; exact HUN2.out) HV1.out HV2.out (win_wf hwL _ _) htop hlt
 rw[hnn]at f1 f2 f3
 have FU:Bx (un<Qb∧un1<Qb∧un2<Qb∧v1<Qb∧v2<Qb):=bx ⟨hwL _ (List.mem_of_getElem? HUN.out),hwL _ (List.mem_of_getElem? HUN1.out),hwL _ (List.mem_of_getElem? HUN2.out),hwv _ (List.mem_of_getElem? HV1.out),hwv _ (List.mem_of_getElem? HV2.out)⟩
 obtain⟨q,hq⟩:∃q,q=Ql Qb (win L j (n+2+1))/Ql Qb v:=⟨_,rfl⟩
 rw[← hq]at f1 f2 f3
 have F1:=bx f1
 have F2:=bx f2
 have F3:=bx f3
 have F4:=bx f4
 have HQ:=bx hq
 have HLT:=bx hlt
 rw[hnn]at hj hcu hn hvl
 have HNL:=bx hn
 clear f1 f2 f3 f4 hq hlt hnn hn2 htop hvl
 have hnI:(n:Int)≤999999998:=by omega
 have hn0:(0:Int)≤(n:Int):=by omega
 clear hn
 go_enter Try.func82,Try.ntmps82
 go_upto_region 3 with fail
 go_quiet (fail)
 go_upto_if 22 with fail
 go_cut [6] (fun v6 w'=>∃gs:Nat,v6=.int .u64 (gs:Int)∧Bx (q≤gs∧gs<Qb)∧∃m,w'=w.drewN m)
 case first=>
  by_cases hlt1:un<v1
  ·have hlt1':(un:Int)<(v1:Int):=by omega
   obtain⟨d1,d2,d3⟩:=dv_spec FU.out.2.1 hlt1
   have hqd:q≤dvQ un un1 v1:=by
    have h:=F1.out
    unfold dvQ; exact h
   have HD:=bx (And.intro d1 (And.intro d2 (And.intro d3 hqd)))
   clear d1 d2 d3 hqd
   rw[show decide (un<v1)=true from decide_eq_true hlt1]
   go_upto_region 5 with fail
   go_quiet ((go_at_call 86; go_must (exact div64_quiet _ _ _ un un1 v1 FU.out.2.1 FU.out.2.2.2.1 hlt1)))
   go_wp2_with fail
   rw[show n+2-1=n+1 from rfl]
   go_loopw [6,7] (fun v6 v7 wr=>∃gs r:Nat,v6=.int .u64 (gs:Int)∧v7=.int .u64 (r:Int)∧Bx (un*Qb+un1=gs*v1+r∧q≤gs∧gs<Qb∧r<Qb)∧∃m,wr=w.drewN m) (fun v6 _ _=>(intOf v6).toNat)
   case atStart=>exact⟨_,_,rfl,rfl,bx ⟨HD.out.1.symm,HD.out.2.2.2,HD.out.2.2.1,Nat.lt_trans HD.out.2.1 FU.out.2.2.2.1⟩,_,World.drewN_drewN _ _ _⟩
   case round=>
    clear HD
    obtain⟨gs,r,rfl,rfl,HI,mq,rfl⟩:=hrel
    have hg64:(gs:Int)≤18446744073709551615:=by have:=HI.out.2.2.1; unfold Qb at this; omega
    by_cases hle:gs*v2≤r*Qb+un2
    ·-- the third word is content: out of the loop
     obtain⟨hi,lo,hhi,hlo,hcmp⟩:=third_le hle FU.out.2.2.1
     by_cases hc1:hi<r
     ·have hc1':(hi:Int)<(r:Int):=by omega
      go_wp2_with (go_at_call 65; refine(K8 gs v2 HI.out.2.2.1 FU.out.2.2.2.2 _).mono ?_; rintro e w' ⟨rfl,rfl⟩; rw[hhi,hlo])
      go_meet
      case rel=>exact⟨gs,rfl,bx ⟨HI.out.2.1,HI.out.2.2.1⟩,_,rfl⟩
     ·obtain⟨rfl,hc2⟩:hi=r∧lo≤un2:=by rcases hcmp with h|h; exact absurd h hc1; exact h
      have hc2':(lo:Int)≤(un2:Int):=by omega
      go_wp2_with (go_at_call 65; refine(K8 gs v2 HI.out.2.2.1 FU.out.2.2.2.2 _).mono ?_; rintro e w' ⟨rfl,rfl⟩; rw[hhi,hlo])
      go_meet
      case rel=>exact⟨gs,rfl,bx ⟨HI.out.2.1,HI.out.2.2.1⟩,_,rfl⟩
    ·have hqg:=F2.out gs r HI.out.1 (by omega)
     have HG:=bx hqg
     have hg1:(1:Int)≤(gs:Int):=by omega
     obtain⟨hi,lo,hhi,hlo,hcmp⟩:=third_gt (gs:=gs) (v2:=v2) (r:=r) (un2:=un2) (by omega)
     have HA:=bx (ad_spec r v1)
     have HAL:=bx (adLo_lt r v1)
     clear hqg hle
     by_cases hov:adHi r v1=0
     ·have hov':(((adHi r v1:Nat)):Int)=0:=by omega
      have HOV:=bx hov
      clear hov
      rcases hcmp with hc|⟨rfl,hc⟩
      ·have hc1:¬((hi:Int)<(r:Int)):=by omega
       have hc2:((hi:Int)==(r:Int))=false:=beq_eq_false_iff_ne.2 (by omega)
       go_wp2_with (first|(go_at_call 65; refine(K8 gs v2 HI.out.2.2.1 FU.out.2.2.2.2 _).mono ?_; rintro e w' ⟨rfl,rfl⟩; rw[hhi,hlo])|((with_reducible refine Wo 66 rfl rfl ?_); refine Qba rfl rfl rfl ?_))
       go_roundw
       case rel=>exact⟨gs-1,adLo r v1,by congr 1; omega,rfl,bx ⟨by have h:=Qbk (by omega) HI.out.1; have h2:=HA.out; rw[HOV.out]at h2; rw[h]; omega,by have:=HG.out; omega,by have:=HI.out.2.2.1; omega,by unfold Qb; exact HAL.out⟩,_,rfl⟩
       case measure=>simp[intOf]; omega
      ·have hc1:¬((hi:Int)<(hi:Int)):=by omega
       have hc2:¬((lo:Int)≤(un2:Int)):=by omega
       go_wp2_with (first|(go_at_call 65; refine(K8 gs v2 HI.out.2.2.1 FU.out.2.2.2.2 _).mono ?_; rintro e w' ⟨rfl,rfl⟩; rw[hhi,hlo])|((with_reducible refine Wo 66 rfl rfl ?_); refine Qba rfl rfl rfl ?_))
       go_roundw
       case rel=>exact⟨gs-1,adLo hi v1,by congr 1; omega,rfl,bx ⟨by have h:=Qbk (by omega) HI.out.1; have h2:=HA.out; rw[HOV.out]at h2; rw[h]; omega,by have:=HG.out; omega,by have:=HI.out.2.2.1; omega,by unfold Qb; exact HAL.out⟩,_,rfl⟩
       case measure=>simp[intOf]; omega
     ·have hov':(0:Int)<(((adHi r v1:Nat)):Int):=by omega
      clear hov
      rcases hcmp with hc|⟨rfl,hc⟩
      ·have hc1:¬((hi:Int)<(r:Int)):=by omega
       have hc2:((hi:Int)==(r:Int))=false:=beq_eq_false_iff_ne.2 (by omega)
       go_wp2_with (first|(go_at_call 65; refine(K8 gs v2 HI.out.2.2.1 FU.out.2.2.2.2 _).mono ?_; rintro e w' ⟨rfl,rfl⟩; rw[hhi,hlo])|((with_reducible refine Wo 66 rfl rfl ?_); refine Qba rfl rfl rfl ?_))
       go_meet
       case rel=>exact⟨gs-1,by congr 1; omega,bx ⟨by have:=HG.out; omega,by have:=HI.out.2.2.1; omega⟩,_,rfl⟩
      ·have hc1:¬((hi:Int)<(hi:Int)):=by omega
       have hc2:¬((lo:Int)≤(un2:Int)):=by omega
       go_wp2_with (first|(go_at_call 65; refine(K8 gs v2 HI.out.2.2.1 FU.out.2.2.2.2 _).mono ?_; rintro e w' ⟨rfl,rfl⟩; rw[hhi,hlo])|((with_reducible refine Wo 66 rfl rfl ?_); refine Qba rfl rfl rfl ?_))
       go_meet
       case rel=>exact⟨gs-1,by congr 1; omega,bx ⟨by have:=HG.out; omega,by have:=HI.out.2.2.1; omega⟩,_,rfl⟩
  ·have hlt1':¬((un:Int)<(v1:Int)):=by omega
   go_wp2
   go_meet
   case rel=>exact⟨18446744073709551615,rfl,bx ⟨by have:=F3.out; unfold Qb at this; omega,by unfold Qb; omega⟩,_,rfl⟩
 case rest=>
  obtain⟨gs0,rfl,HG0,m0,rfl⟩:=hcut
  have hR0:=hR.drewN m0
  have hv0:RdB (w.drewN m0) B .u64 (some ⟨bv,ov,none⟩) cv v:=hv
  have hgr0:=Qes w m0 (some g)
  have hwsz:w.heap.size=(w.drewN m0).heap.size:=rfl
  clear hcun hcun1 hcun2 hcv1 hcv2 hR hv F1 F2 FU HUN HUN1 HUN2 HV1 HV2
  go_wp2_with fail
  go_loopw [6] (fun v6 wr=>∃gs:Nat,v6=.int .u64 (gs:Int)∧Bx (q≤gs∧gs<Qb)∧Row wr .u64 81 g L∧RdB wr B .u64 (some ⟨bv,ov,none⟩) cv v∧w.grownBy wr (some g)) (fun v6 _=>(intOf v6).toNat)
  case atStart=>exact⟨gs0,rfl,HG0,hR0,hv0,hgr0⟩
  case round=>
   clear hR0 hv0 hgr0 HG0 hwsz
   obtain⟨gs,rfl,HG,hRr,hvr,hgr⟩:=hrel
   go_wp2_with fail
   have htk:=take_num wr B g j cu L v _ cv gs hRr hwL (by have:=HNN.out; omega) (by have:=HNN.out; omega) hcm hvr hB hwv HG.out.2 (by have:=HNN.out; have:=HNL.out; omega)
   rw[HNN.out]at htk
   refine htk.mono ?_
   clear htk
   rintro e w2 (⟨hlt2,rfl,hb2⟩|⟨hge2,rfl,hg2,M,m1,m2,m3,m4,m5,m6⟩)
   ·have hqlt:q<gs:=by
     rw[HQ.out,Nat.div_lt_iff_lt_mul,Nat.mul_comm]
     ·exact hlt2
     ·rcases Nat.eq_zero_or_pos (Ql Qb v)with h|h
      ·rw[h,Nat.zero_mul]at hlt2; omega
      ·exact h
    have HQG:=bx hqlt
    have hg1:(1:Int)≤(gs:Int):=by omega
    have hg64:(gs:Int)≤18446744073709551615:=by have:=HG.out.2; unfold Qb at this; omega
    have hR2:=hRr.keep hb2
    have hv2:=hvr.grown (Jb hb2 (some g)) hB
    have hgr2:=Qal hgr (Jb hb2 (some g))
    clear hlt2 hqlt hRr hvr hgr hb2
    go_wp2
    go_roundw
    case rel=>exact⟨gs-1,by congr 1; omega,bx ⟨by have:=HQG.out; omega,by have:=HG.out.2; omega⟩,hR2,hv2,hgr2⟩
    case measure=>simp[intOf]; omega
   ·have hge:=HG.out.1
    have hqe:gs=Ql Qb (win L j (n+2+1))/Ql Qb v:=by
     refine Nat.le_antisymm ?_ (by rw[HQ.out]at hge; exact hge)
     rcases Nat.eq_zero_or_pos (Ql Qb v)with h|h
     ·have:=HLT.out; rw[h,Nat.zero_mul]at this; omega
     ·rw[Nat.le_div_iff_mul_le h,Nat.mul_comm]; exact hge2
    have hmod:Ql Qb (win M j (n+2+1))=Ql Qb (win L j (n+2+1))%Ql Qb v:=by
     have h:=Nat.div_add_mod (Ql Qb (win L j (n+2+1))) (Ql Qb v)
     rw[← hqe]at h
     omega
    have HQE:=bx hqe
    have HMOD:=bx hmod
    clear hge2 hqe hmod m6 hge
    have M1:=bx m1
    have M4:=bx m4
    have M5:=bx m5
    clear m1 m4 m5
    go_wp2
    go_ret
    exact⟨Qae (by rw[HQE.out]),Qal hgr hg2,M,M1.out,m2,m3,M4.out,M5.out,HMOD.out⟩
theorem long_step {M M' qs:List Nat} {j K V A:Nat} (hl:M'.length=M.length) (hj:j+(K+1)≤M.length) (hV:V<Qb^K) (hqj:j<qs.length)
  (htk:M'.take j=M.take j) (hdr:M'.drop (j+(K+1))=M.drop (j+(K+1))) (hmod:Ql Qb (win M' j (K+1))=Ql Qb (win M j (K+1))%V) (hlt:Ql Qb (M.drop (j+1))<V)
  (hval:Ql Qb M+Ql Qb (qs.drop (j+1))*Qb^(j+1)*V=A):
  Ql Qb M'+Ql Qb ((qs.set j (Ql Qb (win M j (K+1))/V)).drop j)*Qb^j*V=A∧Ql Qb (M'.drop j)<V:=by
 have hz:Ql Qb (M.drop (j+(K+1)))=0:=by
  have h:=Z8 Qb (M.drop (j+1)) K (by simp; omega)
  rw[List.drop_drop,show j+1+K=j+(K+1) by omega]at h
  rcases Nat.eq_zero_or_pos (Ql Qb (M.drop (j+(K+1))))with h0|h0
  ·exact h0
  ·have:Qb^K*1≤Qb^K*Ql Qb (M.drop (j+(K+1))):=Nat.mul_le_mul_left _ h0
   omega
 have e1:Ql Qb (M.drop j)=Ql Qb (win M j (K+1)):=by
  have h:=Z8 Qb (M.drop j) (K+1) (by simp; omega)
  rw[List.drop_drop,hz,Nat.mul_zero,Nat.add_zero]at h
  exact h
 have e2:Ql Qb (M'.drop j)=Ql Qb (win M j (K+1))%V:=by
  have h:=Z8 Qb (M'.drop j) (K+1) (by simp; omega)
  rw[List.drop_drop,hdr,hz,Nat.mul_zero,Nat.add_zero]at h
  rw[← hmod]; exact h
 refine⟨?_,by rw[e2]; exact Nat.mod_lt _ (by omega)⟩
 have m1:=Z8 Qb M j (by omega)
 have m2:=Z8 Qb M' j (by omega)
 rw[e1]at m1
 rw[e2,htk]at m2
 have hd:(qs.set j (Ql Qb (win M j (K+1))/V)).drop j=Ql Qb (win M j (K+1))/V::qs.drop (j+1):=by
  rw[List.drop_eq_getElem_cons (by simpa using hqj),List.getElem_set_self,Qck (by omega)]
 rw[hd,val_cons,m2,← hval,m1]
 generalize Ql Qb (win M j (K+1))=W at *
 generalize Ql Qb (qs.drop (j+1))=Y at *
 have hdm:=Nat.div_add_mod W V
 rw[Nat.add_mul,Nat.add_mul,Nat.pow_succ]
 have t1:Qb*Y*Qb^j*V=Y*(Qb^j*Qb)*V:=by
  congr 1
  rw[Nat.mul_comm Qb Y,Nat.mul_assoc,Nat.mul_comm Qb]
 have t2:W/V*Qb^j*V+Qb^j*(W%V)=Qb^j*W:=by
  have:Qb^j*W=Qb^j*(V*(W/V)+W%V):=by rw[hdm]
  rw[this,Nat.mul_add]
  congr 1
  rw[Nat.mul_comm (W/V),Nat.mul_assoc,Nat.mul_comm (W/V)]
 omega
theorem Qeu {M:List Nat} {j K V:Nat} (hj:j+(K+1)≤M.length) (wM:Wf Qb M) (hlt:Ql Qb (M.drop (j+1))<V):Ql Qb (win M j (K+1))<V*Qb:=by
 have h:Ql Qb (win M j (K+1))≤Ql Qb (M.drop j):=by
  have h:=Z8 Qb (M.drop j) (K+1) (by simp; omega)
  unfold win
  omega
 have h2:=val_drop Qb M j (by omega)
 have h3:=wM.get (i:=j) (by omega)
 have h4:Qb*(Ql Qb (M.drop (j+1))+1)≤Qb*V:=Nat.mul_le_mul_left _ hlt
 rw[Nat.mul_add,Nat.mul_one,Nat.mul_comm Qb V]at h4
 omega
end Wx
