import Derived.Test.YtocboimkilkklaaGreatJRF14
namespace Wx
set_option maxRecDepth 100000
set_option maxHeartbeats 1000000
open Go Go.RowKit Go.Proofs
variable {n:Nat}
theorem CI {t:Nat} (h0:0<n) (ht:(ae af n)[(ae af n).length-1]?=some t):bA n=32*((ae af n).length-1)+bA t:=by
 have hl:=(az (n:=n) ak).2 h0
 have hw:=bW ak n
 have Cx:=kM ak n
 have hv:=bF ak n
 have fI:=ht
 obtain⟨hi,e⟩:=List.getElem?_eq_some_iff.1 ht
 have Zp:0<t:=by
  rcases Nat.eq_zero_or_pos t with h|h
  ·exfalso
   apply Cx
   rw[List.getLast?_eq_getElem?,ht,h]
  ·exact h
 have e1:=cB af (ae af n) ((ae af n).length-1) (by omega)
 rw[lB af _ _ hi,e,List.drop_of_length_le (by omega),EK,Nat.mul_zero,Nat.add_zero,hv]at e1
 have Fq:=gC (hw.take ((ae af n).length-1))
 rw[List.length_take,Nat.min_eq_left (by omega)]at Fq
 have hp:af^((ae af n).length-1)=2^(32*((ae af n).length-1)):=by rw[sK,<-Nat.pow_mul]
 rw[hp]at e1 Fq
 exact wv Zp Fq e1
theorem pL (w:World) (v:Value) (n:Nat) (h:bq .u32 af w v n) {j:Nat} (hj:Bd j n) (de:j<=1000000000):Calls Tryz.prog 121 #[v] w λe w'=>e=.returned (.int .i64 (bA n:Nat))/\w=w':=by
 obtain⟨A,c,rfl,ha⟩:=h
 have hl:=qh hj
 rcases Nat.eq_zero_or_pos n with rfl|h0
 ·rw[bE,jv]
  go_enter Tryz.func121,Tryz.ntmps121
  go_wp2
  go_ret
  exact⟨rfl,rfl⟩
 ·have U6:=(az (n:=n) ak).2 h0
  obtain⟨b,o,t,rfl,hc,HT⟩:=ha.get (i:=(ae af n).length-1) (by omega)
  have HN:=bx (CI h0 HT.out)
  have S1:=fc (bW ak n _ (List.mem_of_getElem? HT.out))
  have XP:=bx (show bA n<=1000000000 from Nat.le_trans (mX hj) de)
  clear HT ha hj h0
  have KD:(ae af n).length<=100000000:=by omega
  clear hl
  generalize (ae af n).length=L at *
  obtain⟨K,rfl⟩:∃K,L=K+1:=⟨L-1,by omega⟩
  rw[Nat.add_sub_cancel]at hc HN
  have jE:(K:Int)<=100000000:=by omega
  clear KD U6
  have BO:(((K+1:Nat):Int)==0)=false:=beq_eq_false_iff_ne.2 (by omega)
  go_enter Tryz.func121,Tryz.ntmps121
  go_wp2_with fail
  go_loop [3,4] (λs3 s4=>∃(m x:Nat),s3=.int .i64 (m:Int)/\s4=.int .u32 (x:Int)/\Bx (bA n=m+bA x)/\(x:Int)<=4294967295) (λ_ s4=>(RowKit.intOf s4).toNat)
  case atStart=>exact⟨32*K,t,by go_num,rfl,HN,S1⟩
  case round=>
   obtain⟨m,x,rfl,rfl,HX,hx⟩:=hrel
   have hm:(m:Int)<=4000000000:=by have:=HX.out; have:=XP.out; omega
   rcases Nat.eq_zero_or_pos x with rfl|hx0
   ·have e:=HX.out
    rw[jv,Nat.add_zero]at e
    have E:=bx e
    clear e
    go_wp2
    go_ret
    exact⟨iu (by rw[E.out]),rfl⟩
   ·have hx1:(0:Int)<(x:Int):=by omega
    have e:=HX.out
    rw[CJ hx0]at e
    have E:=bx e
    clear e
    go_wp2
    go_round
    case rel=>exact⟨m+1,x/2,by go_num,by go_num,bx (by rw[E.out]; omega),by omega⟩
    case measure=>simp[RowKit.intOf]; omega
theorem wG {P:Program} (w:World) {ops:Array Oper} {rest:List Oper} {o:Oper} {a:Act} {Q:Exit->Act->World->Prop}
  (hg:o.guard=none) (l c:Operand) (t:TypeId) (hop:o.op=Op.makeSlice t l c)
  (k:IntKind) (e:TypeId) (h1:P.underlying t=some (.slice e)) (hi:(P.info? e).map (λi=>(i.zero,i.size,decide (i.bytes<=8)))=some (some (.int k 0),1,true))
  (C:Nat) (hl:a.eval l=.int .i64 C) (hc:a.eval c=.int .i64 C) (hC:C<=1099511627776)
  (hK:∀w',w'.ownsRow w.heap.size e 1 (.slice (some ⟨w.heap.size,0,none⟩) C C) C (gl k (List.replicate C 0))->Below w.heap.size w w'->w'.heap.size=w.heap.size+1->wpList P ops Q rest (a.put o.dst (.slice (some ⟨w.heap.size,0,none⟩) C C)) w'):
  wpList P ops Q (o::rest) a w:=by
 obtain⟨i,h2,hzz⟩:=Option.map_eq_some_iff.1 hi
 simp only[Prod.mk.injEq,decide_eq_true_eq]at hzz
 obtain⟨hz,hs,hb⟩:=hzz
 refine wpList_plain hg λK hK'=>?_
 have hbytes:(i.bytes:Int)*(C:Int)<=281474976710656:=by
  have h8:(i.bytes:Int)<=8:=by omega
  have:=Int.mul_le_mul_of_nonneg_right h8 (show 0<=(C:Int) by omega)
  omega
 have hrun:=run_make (P:=P) w t e i (.int k 0) h1 h2 hz .i64 .i64 C C (by omega) (by omega) hbytes (by omega)
 rw[hs,Nat.mul_one]at hrun
 unfold Oper.wp
 simp only[execOp,hop,hl,hc,Sem.run_bind,hrun,Result.andThen]
 simp only[Sem.run_pure,Oper.upon]
 refine hK' _ _ (hK _ ?_ ((Below.refl _ _).alloc (Nat.le_refl _) _) (by simp))
 simp only[Value.cells,oF,Int.toNat_natCast]
 refine⟨by simp[eR],.inr ⟨w.heap.size,C,_,rfl,Nat.le_refl _,heap_alloc_new _ _,Nat.le_refl _,by unfold maxLen; omega,by simp[eR],by rw[Nat.mul_one,List.toList_toArray,List.take_of_length_le (by simp[eR])]⟩⟩
theorem De {l r:List Nat} (h:r≠[]) (ht:pE r):pE (l++r):=by
 unfold pE at *
 rw[List.getLast?_append]
 obtain⟨x,hx⟩:∃x,r.getLast?=some x:=⟨r.getLast h,List.getLast?_eq_some_getLast h⟩
 rw[hx]at ht ⊢
 simpa using ht
theorem C9 {k:Nat} (h:0<n):List.replicate k 0++ae af n=ae af (af^k*n):=by
 have hne:ae af n≠[]:=List.length_pos_iff.1 ((az ak).2 h)
 have e:val af (List.replicate k 0++ae af n)=af^k*n:=by
  rw[ic,gn,List.length_replicate,Nat.zero_add,bF ak]
 rw[<-e]
 exact(mJ ak ((Wf.replicate (by unfold af; omega) k).append (bW ak n)) (De hne (kM ak n))).symm
theorem qF (w:World) (v:Value) (n k:Nat) (h:bq .u32 af w v n) (h0:0<n) {j:Nat} (hj:Bd j n) (de:j<=100000000) (hk:k<=100000000):Calls Tryz.prog 122 #[v,.int .i64 (k:Int)] w (nF w (n*2^k)):=by
 obtain⟨A,c,rfl,ha⟩:=h
 have hl:=qh hj
 have U6:=(az (n:=n) ak).2 h0
 obtain⟨b,o,t,rfl,_,_⟩:=ha.get (i:=0) U6
 have KD:(ae af n).length<=100000000:=by omega
 clear hl
 have HE:=bx (C9 (k:=k/32) h0)
 have HP:=bx (show af^(k/32)*n*2^(k%32)=n*2^k by
  rw[sK,<-Nat.pow_mul,Nat.mul_comm (2^(32*(k/32))) n,Nat.mul_assoc,<-Nat.pow_add,Nat.div_add_mod])
 have HJ:Bx (Bd (k+j) (af^(k/32)*n)):=bx (by
  have e:af^(k/32)=2^(32*(k/32)):=by rw[sK,<-Nat.pow_mul]
  have h2:=hj
  unfold Bd at *
  rw[e,Nat.pow_add]
  have h3:2^(32*(k/32))<=2^k:=Nat.pow_le_pow_right (by omega) (by omega)
  exact Nat.lt_of_le_of_lt (Nat.mul_le_mul_right _ h3) (Nat.mul_lt_mul_of_pos_left h2 (Nat.two_pow_pos k)))
 clear hj
 generalize ae af n=l at *
 go_enter Tryz.func122,Tryz.ntmps122
 go_wp2_with (first
  |(at_make; refine wG _ rfl _ _ _ rfl .u32 128 Tryz.underlying36 lK (k/32) rfl rfl (by omega) ?_; intro w1 hown cV hsz; have hown:w1.ownsRow w.heap.size 128 1 (.slice (some ⟨w.heap.size,0,none⟩) (k/32) (k/32)) (List.replicate (k/32) 0).length (gl .u32 (List.replicate (k/32) 0)):=by rw[List.length_replicate]; exact hown)
  |(at_builtin; refine pD _ rfl (.tmp 9) (.tmp 10) _ rfl .u32 128 w.heap.size Tryz.underlying36 lK (.slice (some ⟨w.heap.size,0,none⟩) (k/32) (k/32)) (List.replicate (k/32) 0) rfl hown _ _ _ l _ rfl rfl (ha.below cV) (by simp; omega) (by have:=cV.size; omega) ?_; intro U A4 c4 w4 HU pX hg4))
 have hp2:2^(k%32)<2^32:=Nat.pow_lt_pow_right (by omega) (by omega)
 have W2:=bx (show IntKind.u64.wrap ((2:Int)^(k%32))=((2^(k%32):Nat):Int) by
  have e:((2:Int)^(k%32))=((2^(k%32):Nat):Int):=by simp
  rw[e]
  generalize 2^(k%32)=P at hp2 ⊢
  exact wrap_u64 (by omega) (by omega))
 rw[W2.out]
 have Lh:Below w.heap.size w w4:=cV.grown hg4 (by omega) (by intro g hg; simp[Value.ownBlock]at hg; omega)
 have hN:bq .u32 af w4 (.slice A4 U.length c4) (af^(k/32)*n):=⟨A4,c4,by rw[HU.out,HE.out],by rw[<-HE.out,<-HU.out]; exact C3 pX⟩
 refine Calls.mono (dA w4 (2^(k%32)) (by unfold b64; omega)) ?_
 rintro e w5 ⟨v5,rfl,h5,MZ⟩
 clear hp2
 go_wp2_with fail
 refine Calls.mono (qx w5 _ _ _ _ (hN.below MZ) h5 (j:=k+j) (k:=32) (HJ.out) (Nat.pow_lt_pow_right (by omega) (by omega)) (by omega) (by omega)) ?_
 rintro e w6 ⟨g6,L6,c6,W5,rfl,h6,OD⟩
 go_wp2
 go_ret
 rw[HP.out]at h6
 exact⟨g6,_,_,Nat.le_trans (Nat.le_trans Lh.size MZ.size) W5,rfl,h6,(Lh.trans (MZ.mono Lh.size)).trans (OD.mono (Nat.le_trans Lh.size MZ.size))⟩
theorem sk (w:World) (v:Value) (n k:Nat) (h:bq .u32 af w v n) (h0:0<n) {j:Nat} (hj:Bd j n) (de:j<=100000000) (hk:k<=100000000):Calls Tryz.prog 122 #[v,.int .i64 (k:Int)] w (eW .u32 af w (n*2^k)):=
 (qF w v n k h h0 hj de hk).mono λ_ _ h=>h.num
end Wx

namespace Wx
set_option maxRecDepth 100000
set_option maxHeartbeats 1000000
open Go Go.RowKit Go.Proofs
variable {i:Nat}
theorem wE {l:List Nat}:val af (l.drop i)%2=l.getD i 0%2:=by
 by_cases h:i<l.length
 ·rw[lB af l i h,List.getD_eq_getElem?_getD,List.getElem?_eq_getElem h,Option.getD_some]
  unfold af; omega
 ·rw[List.drop_of_length_le (by omega),List.getD_eq_getElem?_getD,List.getElem?_eq_none (by omega)]; rfl
theorem oU {a o:List Nat} {x y d z L g T:Nat} {wr w0:World} (ew:o.length=i) (hlt:i<L) (fg:Wf af o) (Zt:Wf af a) (hx:a[i]?=some x) (hy:a.getD (i+1) 0=y) (hd:y%2=d) (hz:z=x/2+2147483648*d)
  (hr:Row wr .u32 128 g ((o++List.replicate (L-i) 0).set i z)) (hbl:Below w0.heap.size w0 wr)
  (hval:val af o+af^i*(val af (a.drop i)/2)=T):
  ∃(o':List Nat),o'.length=i+1/\Wf af o'/\Row wr .u32 128 g (o'++List.replicate (L-(i+1)) 0)/\Below w0.heap.size w0 wr/\val af o'+af^(i+1)*(val af (a.drop (i+1))/2)=T:=by
 have cT:x<af:=Zt _ (List.mem_of_getElem? hx)
 have hzb:z<af:=by
  subst hz
  have:d<=1:=by omega
  unfold af at *; omega
 refine⟨o++[z],by simp[ew],fg.append (Wf.cons hzb (Wf.nil _)),?_,hbl,?_⟩
 ·rw[show L-i=(L-(i+1))+1 by omega,List.replicate_succ,ki ew]at hr
  rw[List.append_assoc]
  exact hr
 ·rw[<-hval,lC,ew,kr hx,lA]
  have hm:=wE (l:=a) (i:=i+1)
  rw[hy,hd]at hm
  have h:=Fm (x:=x) hm
  have e:af=4294967296:=rfl
  rw[<-e]at h
  rw[h,<-hz,Nat.pow_succ,Nat.mul_assoc,Nat.mul_add]
  omega
theorem rT (w:World) (v:Value) (n:Nat) (h:bq .u32 af w v n) {j:Nat} (hj:Bd j n) (de:j<=1000000000):Calls Tryz.prog 123 #[v] w (nF w (n/2)):=by
 obtain⟨A,c,rfl,ha⟩:=h
 have hl:=qh hj
 have um:=bF ak n
 have wa:=bW ak n
 clear hj
 generalize ae af n=a at *
 have hla:a.length<=100000000:=by omega
 clear hl
 have VA:=bx um
 clear um
 go_enter Tryz.func123,Tryz.ntmps123
 go_wp2_with (at_make; refine da _ rfl _ _ _ rfl .u32 128 Tryz.underlying36 lK _ _ rfl rfl (by omega) (by omega) (by omega) ?_; intro w1 hrow cV hsz)
 rw[Int.toNat_natCast]at hrow
 go_loopw [4] (λs4 wr=>∃(i:Nat) (o:List Nat),i<=a.length/\s4=.int .i64 i/\o.length=i/\Wf af o/\Row wr .u32 128 w.heap.size (o++List.replicate (a.length-i) 0)/\Below w.heap.size w wr/\val af o+af^i*(val af (a.drop i)/2)=n/2)
  (λs4 _=>a.length-(RowKit.intOf s4).toNat)
 case atStart=>exact⟨0,[],by omega,rfl,rfl,Wf.nil _,by simpa using hrow,cV,by simp[val]; rw[VA.out]⟩
 case round=>
  obtain⟨i,o,hi,rfl,ew,fg,hr,hbl,hval⟩:=hrel
  have dh:=bx hval
  have en:=bx ew
  clear hval ew hrow cV hsz
  by_cases hlt:i<a.length
  ·obtain⟨gx,ox,x,rfl,xo,jG⟩:=(ha.below hbl).get hlt
   obtain⟨vo,DY,GI⟩:=hr.get (i:=i) (by have:=en.out; simp; omega)
   have vU:=hr.frozen i
   have UY:(0:Int)<=(i:Int):=by omega
   have UZ:(i:Int)<(a.length:Int):=by omega
   have hx1:=fc (wa _ (List.mem_of_getElem? jG.out))
   obtain⟨b2,o2,e2,W4⟩:=ha.at_ hlt
   injection e2 with e2
   injection e2 with e1 e2
   subst e1 e2
   have hgx:=World.block_lt_of_cell? w _ W4
   have hne:gx≠w.heap.size:=by
    have:gx<w.heap.size:=hgx
    omega
   clear W4 hgx
   have hx2:(0:Int)<=(x:Int)/2:=by omega
   have Xi:∀z:Nat,Row (wr.setCell ⟨w.heap.size,i,none⟩ (.int .u32 (z:Int))) .u32 128 w.heap.size ((o++List.replicate (a.length-i) 0).set i z):=λz=>hr.set i z
   have Tt:=bx Xi
   have Ti:Bx (∀u,Below w.heap.size w (wr.setCell ⟨w.heap.size,i,none⟩ u)):=bx (λu=>hbl.setCell (Nat.le_refl w.heap.size) u)
   clear Xi
   by_cases hn:i+1<a.length
   ·obtain⟨gy,oy,y,e1,Iw,sq⟩:=(ha.below hbl).get hn
    injection e1 with e1
    injection e1 with e1 e2
    subst e1 e2
    have YS:(wr.setCell ⟨w.heap.size,i,none⟩ (.int .u32 ((x:Int)/2))).cell? ⟨gx,ox+(i+1),none⟩=some (.int .u32 (y:Int)):=by
     rw[World.cell?_of_block (Below.heap_setCell wr ⟨w.heap.size,i,none⟩ _ gx hne)]; exact Iw
    rcases Nat.mod_two_eq_zero_or_one y with hy|hy
    ·have hy0:((y:Int)%2==1)=false:=beq_eq_false_iff_ne.2 (by omega)
     have HY:=bx hy
     clear hy
     go_wp2
     go_roundw
     case rel=>
      obtain⟨o',r⟩:=oU (z:=x/2) en.out hlt fg wa jG.out (by rw[List.getD_eq_getElem?_getD,sq.out]; rfl) HY.out (by omega) (Tt.out (x/2)) (Ti.out _) dh.out
      exact⟨i+1,o',by omega,by go_num,r⟩
     case measure=>simp[RowKit.intOf]; omega
    ·have hy0:((y:Int)%2==1)=true:=beq_iff_eq.2 (by omega)
     have HY:=bx hy
     clear hy
     go_wp2
     go_roundw
     case rel=>
      have hR:=(Tt.out (x/2)).set i (x/2+2147483648)
      rw[List.set_set]at hR
      obtain⟨o',r⟩:=oU (z:=x/2+2147483648) en.out hlt fg wa jG.out (by rw[List.getD_eq_getElem?_getD,sq.out]; rfl) HY.out (by omega) hR ((Ti.out _).setCell (Nat.le_refl _) _) dh.out
      exact⟨i+1,o',by omega,by go_num,r⟩
     case measure=>simp[RowKit.intOf]; omega
   ·go_wp2
    go_roundw
    case rel=>
     obtain⟨o',r⟩:=oU (z:=x/2) (y:=0) en.out hlt fg wa jG.out (by rw[List.getD_eq_getElem?_getD,List.getElem?_eq_none (by omega)]; rfl) rfl (by omega) (Tt.out (x/2)) (Ti.out _) dh.out
     exact⟨i+1,o',by omega,by go_num,r⟩
    case measure=>simp[RowKit.intOf]; omega
  ·obtain rfl:i=a.length:=by omega
   have HF:=bx (show val af o=n/2 by have:=dh.out; rw[List.drop_of_length_le (Nat.le_refl _)]at this; simpa [val] using this)
   rw[Nat.sub_self,List.replicate_zero,List.append_nil]at hr
   have hrd:=hr.fF (c:=a.length) (by have:=en.out; omega) (by unfold maxLen; omega)
   go_wp2_with fail
   refine(rB _ _ _ o (n/2) hrd fg _ en.out HF.out).mono ?_
   rintro e w' ⟨rfl,kn,rfl,hv⟩
   go_wp2
   go_ret
   exact⟨_,_,_,Nat.le_refl _,rfl,hv,hbl⟩
end Wx

namespace Wx
set_option maxRecDepth 100000
set_option maxHeartbeats 1000000
open Go Go.RowKit Go.Proofs
@[irreducible] def bdQ (r x d : Nat) : Nat := (r * 4294967296 + x) / d
@[irreducible] def bdR (r x d : Nat) : Nat := (r * 4294967296 + x) % d
variable {r x d:Nat}
theorem DA (hd:0<d) (hr:r<d) (hx:x<af):bdQ r x d*d+bdR r x d=r*af+x/\bdR r x d<d/\bdQ r x d<af:=by
 unfold bdQ bdR af
 unfold af at hx
 refine⟨by rw[Nat.mul_comm]; exact Nat.div_add_mod _ _,Nat.mod_lt _ hd,?_⟩
 rw[Nat.div_lt_iff_lt_mul hd]
 have:=Nat.mul_le_mul_right 4294967296 (Nat.succ_le_of_lt hr)
 rw[Nat.succ_mul,Nat.mul_comm d]at this
 omega
theorem NY (hd:0<d) (hr:r<d) (hx:x<af):
  ((r:Int)*4294967296+(x:Int))/(d:Int)%4294967296=((bdQ r x d:Nat):Int)/\((r:Int)*4294967296+(x:Int))%(d:Int)=((bdR r x d:Nat):Int):=by
 obtain⟨_,h2,h3⟩:=DA hd hr hx
 have e:(r:Int)*4294967296+(x:Int)=((r*4294967296+x:Nat):Int):=by omega
 unfold bdQ bdR at *
 rw[e,<-Int.natCast_ediv,<-Int.natCast_emod]
 unfold af at h3
 generalize (r*4294967296+x)/d=q at *
 omega
def G5 (w:World) (q r:Nat) (e:Ending) (w':World):Prop:=∃v,e=.returned (.tuple #[v,.int .u32 (r:Int)])/\bq .u32 af w' v q/\Below w.heap.size w w'
theorem rJ (w:World) (v1:Value) (m d:Nat) (h1:bq .u32 af w v1 m) {j:Nat} (hj:Bd j m) (de:j<=1000000000) (hd:0<d) (vV:d<af):
  Calls Tryz.prog 120 #[v1,.int .u32 (d:Int)] w (G5 w (m/d) (m%d)):=by
 obtain⟨A,c,rfl,ha⟩:=h1
 have hl:=qh hj
 have um:=bF ak m
 have wa:=bW ak m
 clear hj
 generalize ae af m=a at *
 have hla:a.length<=100000000:=by omega
 clear hl
 have VA:=Lib.hid um
 have wH:=Lib.hid vV
 have OI:=fc vV
 have hd0:(0:Int)<(d:Int):=by omega
 clear um vV
 go_enter Tryz.func120,Tryz.ntmps120
 go_wp2_with (at_make; refine da _ rfl _ _ _ rfl .u32 128 Tryz.underlying36 lK _ _ rfl rfl (by omega) (by omega) (by omega) ?_; intro w1 hrow cV hsz)
 rw[Int.toNat_natCast]at hrow
 go_loopw [7,8] (λs7 s8 wr=>∃(i rest:Nat) (o:List Nat),i<=a.length/\s8=.int .i64 ((i:Int)-1)/\s7=.int .u64 (rest:Int)/\Bx (rest<d)/\Bx (o.length=a.length)/\Wf af o/\Row wr .u32 128 w.heap.size o/\Below w.heap.size w wr/\Bx (val af (a.drop i)=val af (o.drop i)*d+rest))
  (λ_ s8 _=>(RowKit.intOf s8+1).toNat)
 case atStart=>exact⟨a.length,0,List.replicate a.length 0,by omega,rfl,rfl,bx hd,bx (by simp),Wf.replicate (by unfold af; omega) _,hrow,cV,bx (by rw[List.drop_of_length_le (by omega),List.drop_of_length_le (by simp)]; simp[val])⟩
 case round=>
  obtain⟨i,rest,o,hi,rfl,rfl,KL,en,fg,hr,hbl,dh⟩:=hrel
  clear hrow cV hsz
  rcases Nat.eq_zero_or_pos i with rfl|hpos
  ·rw[show(((0:Nat):Int)-1) = -1 by omega]
   have h:=dh.out
   rw[List.drop_zero,List.drop_zero,VA.out]at h
   obtain⟨e1,e2⟩:=lG h KL.out
   have HF:=Lib.hid e1.symm
   have HG:=Lib.hid e2.symm
   clear h e1 e2
   have hrd:=hr.fF (c:=a.length) (by have:=en.out; omega) (by unfold maxLen; omega)
   have hr1:(rest:Int)<=4294967295:=by have:=KL.out; omega
   go_wp2_with fail
   refine(qn _ _ _ o (m/d) hrd fg _ en.out HF.out).mono ?_
   rintro e w' ⟨rfl,v,rfl,hv⟩
   go_wp2
   rw[HG.out]
   go_ret2
   exact⟨_,rfl,hv,hbl⟩
  ·obtain⟨k,rfl⟩:∃k,i=k+1:=⟨i-1,by omega⟩
   rw[show(((k+1:Nat):Int)-1)=(k:Int) by omega]
   obtain⟨gx,ox,vx,rfl,xo,jG⟩:=(ha.below hbl).get (i:=k) (by omega)
   obtain⟨vo,DY,GI⟩:=hr.get (i:=k) (by have:=en.out; omega)
   have vU:=hr.frozen k
   have Ku:Bx (vx<af):=bx (wa _ (List.mem_of_getElem? jG.out))
   have qb:=fc Ku.out
   have BO:(0:Int)<=(k:Int):=by omega
   have jE:(k:Int)<(a.length:Int):=by omega
   have hrx:(rest:Int)<=4294967294:=by have:=KL.out; omega
   obtain⟨q1,q2⟩:=NY hd KL.out Ku.out
   have Q1:=bx q1
   have Q2:=bx q2
   have HS:=bx (DA hd KL.out Ku.out)
   clear q1 q2
   go_wp2_with fail
   rw[Q1.out,Q2.out]
   go_roundw
   case rel=>
    refine⟨k,_,o.set k (bdQ rest vx d),by omega,rfl,rfl,bx HS.out.2.1,bx (by rw[List.length_set]; exact en.out),fg.set HS.out.2.2,hr.set _ _,hbl.setCell (Nat.le_refl _) _,bx ?_⟩
    rw[ku (by have:=en.out; omega),kr jG.out,lA,lA]
    exact rM dh.out HS.out.1
   case measure=>simp[RowKit.intOf]
end Wx
