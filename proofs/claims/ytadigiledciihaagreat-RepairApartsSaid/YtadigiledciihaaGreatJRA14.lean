import Derived.Test.YtadigiledciihaaGreatJRA13
namespace Wx
set_option maxRecDepth 100000
set_option maxHeartbeats 1000000
open Go Go.RowKit Go.Proofs
variable {n:Nat}
theorem Bu {t:Nat} (h0:0<n) (ht:(ae ah n)[(ae ah n).length-1]?=some t):aT n=32*((ae ah n).length-1)+aT t:=by
 have hl:=(aI (n:=n) ak).2 h0
 have hw:=bw ak n
 have Bj:=jQ ak n
 have hv:=aY ak n
 have ez:=ht
 obtain⟨hi,e⟩:=List.getElem?_eq_some_iff.1 ht
 have WL:0<t:=by
  rcases Nat.eq_zero_or_pos t with h|h
  ·exfalso
   apply Bj
   rw[List.getLast?_eq_getElem?,ht,h]
  ·exact h
 have e1:=bJ ah (ae ah n) ((ae ah n).length-1) (by omega)
 rw[kA ah _ _ hi,e,List.drop_of_length_le (by omega),Dw,Nat.mul_zero,Nat.add_zero,hv]at e1
 have D2:=fu (hw.take ((ae ah n).length-1))
 rw[List.length_take,Nat.min_eq_left (by omega)]at D2
 have hp:ah^((ae ah n).length-1)=2^(32*((ae ah n).length-1)):=by rw[rf,<-Nat.pow_mul]
 rw[hp]at e1 D2
 exact uA WL D2 e1
theorem od (w:World) (v:Value) (n:Nat) (h:bj .u32 ah w v n) {j:Nat} (hj:Bd j n) (dz:j<=1000000000):Calls Tryz.prog 128 #[v] w λe w'=>e=.returned (.int .i64 (aT n:Nat))/\w=w':=by
 obtain⟨A,c,rfl,ha⟩:=h
 have hl:=oI hj
 rcases Nat.eq_zero_or_pos n with rfl|h0
 ·rw[bk,iQ]
  go_enter Tryz.func128,Tryz.ntmps128
  go_wp2
  go_ret
  exact⟨rfl,rfl⟩
 ·have SI:=(aI (n:=n) ak).2 h0
  obtain⟨b,o,t,rfl,hc,HT⟩:=ha.get (i:=(ae ah n).length-1) (by omega)
  have HN:=bx (Bu h0 HT.out)
  have QE:=dY (bw ak n _ (List.mem_of_getElem? HT.out))
  have U8:=bx (show aT n<=1000000000 from Nat.le_trans (mz hj) dz)
  clear HT ha hj h0
  have IQ:(ae ah n).length<=100000000:=by omega
  clear hl
  generalize (ae ah n).length=L at *
  obtain⟨K,rfl⟩:∃K,L=K+1:=⟨L-1,by omega⟩
  rw[Nat.add_sub_cancel]at hc HN
  have lE:(K:Int)<=100000000:=by omega
  clear IQ SI
  have wR:(((K+1:Nat):Int)==0)=false:=beq_eq_false_iff_ne.2 (by omega)
  go_enter Tryz.func128,Tryz.ntmps128
  go_wp2_with fail
  go_loop [3,4] (λs3 s4=>∃(m x:Nat),s3=.int .i64 (m:Int)/\s4=.int .u32 (x:Int)/\Bx (aT n=m+aT x)/\(x:Int)<=4294967295) (λ_ s4=>(intOf s4).toNat)
  case atStart=>exact⟨32*K,t,by go_num,rfl,HN,QE⟩
  case round=>
   obtain⟨m,x,rfl,rfl,HX,hx⟩:=hrel
   have hm:(m:Int)<=4000000000:=by have:=HX.out; have:=U8.out; omega
   rcases Nat.eq_zero_or_pos x with rfl|hx0
   ·have e:=HX.out
    rw[iQ,Nat.add_zero]at e
    have E:=bx e
    clear e
    go_wp2
    go_ret
    exact⟨gG (by rw[E.out]),rfl⟩
   ·have hx1:(0:Int)<(x:Int):=by omega
    have e:=HX.out
    rw[Bv hx0]at e
    have E:=bx e
    clear e
    go_wp2
    go_round
    case rel=>exact⟨m+1,x/2,by go_num,by go_num,bx (by rw[E.out]; omega),by omega⟩
    case measure=>simp[intOf]; omega
theorem uH {P:Program} (w:World) {ops:Array Oper} {rest:List Oper} {o:Oper} {a:Act} {Q:Exit->Act->World->Prop}
  (hg:o.guard=none) (l c:Operand) (t:TypeId) (hop:o.op=Op.makeSlice t l c)
  (k:IntKind) (e:TypeId) (h1:P.underlying t=some (.slice e)) (hi:(P.info? e).map (λi=>(i.zero,i.size,decide (i.bytes<=8)))=some (some (.int k 0),1,true))
  (C:Nat) (hl:a.eval l=.int .i64 C) (hc:a.eval c=.int .i64 C) (hC:C<=1099511627776)
  (hK:∀w',w'.ownsRow w.heap.size e 1 (.slice (some ⟨w.heap.size,0,none⟩) C C) C (fc k (List.replicate C 0))->Below w.heap.size w w'->w'.heap.size=w.heap.size+1->wpList P ops Q rest (a.put o.dst (.slice (some ⟨w.heap.size,0,none⟩) C C)) w'):
  wpList P ops Q (o::rest) a w:=by
 obtain⟨i,h2,hzz⟩:=Option.map_eq_some_iff.1 hi
 simp only[Prod.mk.injEq,decide_eq_true_eq]at hzz
 obtain⟨hz,hs,hb⟩:=hzz
 refine wpList_plain hg λK hK'=>?_
 have hbytes:(i.bytes:Int)*(C:Int)<=281474976710656:=by
  have h8:(i.bytes:Int)<=8:=by omega
  have:=Int.mul_le_mul_of_nonneg_right h8 (show 0<=(C:Int) by omega)
  omega
 have hrun:=run_make (P:=P) w t e i (.int k 0) h1 h2 hz .i64 .i64 C C (by omega) (by omega) hbytes (by omega)
 rw[hs,Nat.mul_one]at hrun
 unfold Oper.wp
 simp only[execOp,hop,hl,hc,Sem.run_bind,hrun,Result.andThen]
 simp only[Sem.run_pure,Oper.upon]
 refine hK' _ _ (hK _ ?_ ((Below.refl _ _).alloc (Nat.le_refl _) _) (by simp))
 simp only[Value.cells,nr,Int.toNat_natCast]
 refine⟨by simp[dV],.inr ⟨w.heap.size,C,_,rfl,Nat.le_refl _,heap_alloc_new _ _,Nat.le_refl _,by unfold maxLen; omega,by simp[dV],by rw[Nat.mul_one,List.toList_toArray,List.take_of_length_le (by simp[dV])]⟩⟩
theorem B4 {l r:List Nat} (h:r≠[]) (ht:oa r):oa (l++r):=by
 unfold oa at *
 rw[List.getLast?_append]
 obtain⟨x,hx⟩:∃x,r.getLast?=some x:=⟨r.getLast h,List.getLast?_eq_some_getLast h⟩
 rw[hx]at ht ⊢
 simpa using ht
theorem BU {k:Nat} (h:0<n):List.replicate k 0++ae ah n=ae ah (ah^k*n):=by
 have hne:ae ah n≠[]:=List.length_pos_iff.1 ((aI ak).2 h)
 have e:val ah (List.replicate k 0++ae ah n)=ah^k*n:=by
  rw[gB,fk,List.length_replicate,Nat.zero_add,aY ak]
 rw[<-e]
 exact(lS ak ((Wf.replicate (by unfold ah; omega) k).append (bw ak n)) (B4 hne (jQ ak n))).symm
theorem xE (w:World) (v:Value) (n k:Nat) (h:bj .u32 ah w v n) (h0:0<n) {j:Nat} (hj:Bd j n) (dz:j<=100000000) (hk:k<=100000000):Calls Tryz.prog 129 #[v,.int .i64 (k:Int)] w (mK w (n*2^k)):=by
 obtain⟨A,c,rfl,ha⟩:=h
 have hl:=oI hj
 have SI:=(aI (n:=n) ak).2 h0
 obtain⟨b,o,t,rfl,_,_⟩:=ha.get (i:=0) SI
 have IQ:(ae ah n).length<=100000000:=by omega
 clear hl
 have HE:=bx (BU (k:=k/32) h0)
 have HP:=bx (show ah^(k/32)*n*2^(k%32)=n*2^k by
  rw[rf,<-Nat.pow_mul,Nat.mul_comm (2^(32*(k/32))) n,Nat.mul_assoc,<-Nat.pow_add,Nat.div_add_mod])
 have HJ:Bx (Bd (k+j) (ah^(k/32)*n)):=bx (by
  have e:ah^(k/32)=2^(32*(k/32)):=by rw[rf,<-Nat.pow_mul]
  have h2:=hj
  unfold Bd at *
  rw[e,Nat.pow_add]
  have h3:2^(32*(k/32))<=2^k:=Nat.pow_le_pow_right (by omega) (by omega)
  exact Nat.lt_of_le_of_lt (Nat.mul_le_mul_right _ h3) (Nat.mul_lt_mul_of_pos_left h2 (Nat.two_pow_pos k)))
 clear hj
 generalize ae ah n=l at *
 go_enter Tryz.func129,Tryz.ntmps129
 go_wp2_with (first
  |(at_make; refine uH _ rfl _ _ _ rfl .u32 146 Tryz.underlying59 kM (k/32) rfl rfl (by omega) ?_; intro w1 hown bZ hsz; have hown:w1.ownsRow w.heap.size 146 1 (.slice (some ⟨w.heap.size,0,none⟩) (k/32) (k/32)) (List.replicate (k/32) 0).length (fc .u32 (List.replicate (k/32) 0)):=by rw[List.length_replicate]; exact hown)
  |(at_builtin; refine nZ _ rfl (.tmp 9) (.tmp 10) _ rfl .u32 146 w.heap.size Tryz.underlying59 kM (.slice (some ⟨w.heap.size,0,none⟩) (k/32) (k/32)) (List.replicate (k/32) 0) rfl hown _ _ _ l _ rfl rfl (ha.below bZ) (by simp; omega) (by have:=bZ.size; omega) ?_; intro U A4 c4 w4 HU oB hg4))
 have hp2:2^(k%32)<2^32:=Nat.pow_lt_pow_right (by omega) (by omega)
 have W2:=bx (show IntKind.u64.wrap ((2:Int)^(k%32))=((2^(k%32):Nat):Int) by
  have e:((2:Int)^(k%32))=((2^(k%32):Nat):Int):=by simp
  rw[e]
  generalize 2^(k%32)=P at hp2 ⊢
  exact wrap_u64 (by omega) (by omega))
 rw[W2.out]
 have Jp:Below w.heap.size w w4:=bZ.grown hg4 (by omega) (by intro g hg; simp[Value.ownBlock]at hg; omega)
 have hN:bj .u32 ah w4 (.slice A4 U.length c4) (ah^(k/32)*n):=⟨A4,c4,by rw[HU.out,HE.out],by rw[<-HE.out,<-HU.out]; exact BN oB⟩
 refine Calls.mono (jj w4 (2^(k%32)) (by unfold b64; omega)) ?_
 rintro e w5 ⟨v5,rfl,h5,KS⟩
 clear hp2
 go_wp2_with fail
 refine Calls.mono (oW w5 _ _ _ _ (hN.below KS) h5 (j:=k+j) (k:=32) (HJ.out) (Nat.pow_lt_pow_right (by omega) (by omega)) (by omega) (by omega)) ?_
 rintro e w6 ⟨g6,L6,c6,Uo,rfl,h6,Mx⟩
 go_wp2
 go_ret
 rw[HP.out]at h6
 exact⟨g6,_,_,Nat.le_trans (Nat.le_trans Jp.size KS.size) Uo,rfl,h6,(Jp.trans (KS.mono Jp.size)).trans (Mx.mono (Nat.le_trans Jp.size KS.size))⟩
end Wx

namespace Wx
set_option maxRecDepth 100000
set_option maxHeartbeats 1000000
open Go Go.RowKit Go.Proofs
variable {i:Nat}
theorem uF {l:List Nat}:val ah (l.drop i)%2=l.getD i 0%2:=by
 by_cases h:i<l.length
 ·rw[kA ah l i h,List.getD_eq_getElem?_getD,List.getElem?_eq_getElem h,Option.getD_some]
  unfold ah; omega
 ·rw[List.drop_of_length_le (by omega),List.getD_eq_getElem?_getD,List.getElem?_eq_none (by omega)]; rfl
theorem nK {a o:List Nat} {x y d z L g T:Nat} {wr w0:World} (dG:o.length=i) (hlt:i<L) (ee:Wf ah o) (WQ:Wf ah a) (hx:a[i]?=some x) (hy:a.getD (i+1) 0=y) (hd:y%2=d) (hz:z=x/2+2147483648*d)
  (hr:Row wr .u32 146 g ((o++List.replicate (L-i) 0).set i z)) (hbl:Below w0.heap.size w0 wr)
  (hval:val ah o+ah^i*(val ah (a.drop i)/2)=T):
  ∃(o':List Nat),o'.length=i+1/\Wf ah o'/\Row wr .u32 146 g (o'++List.replicate (L-(i+1)) 0)/\Below w0.heap.size w0 wr/\val ah o'+ah^(i+1)*(val ah (a.drop (i+1))/2)=T:=by
 have dZ:x<ah:=WQ _ (List.mem_of_getElem? hx)
 have hzb:z<ah:=by
  subst hz
  have:d<=1:=by omega
  unfold ah at *; omega
 refine⟨o++[z],by simp[dG],ee.append (Wf.cons hzb (Wf.nil _)),?_,hbl,?_⟩
 ·rw[show L-i=(L-(i+1))+1 by omega,List.replicate_succ,js dG]at hr
  rw[List.append_assoc]
  exact hr
 ·rw[<-hval,kB,dG,jx hx,kz]
  have hm:=uF (l:=a) (i:=i+1)
  rw[hy,hd]at hm
  have h:=DZ (x:=x) hm
  have e:ah=4294967296:=rfl
  rw[<-e]at h
  rw[h,<-hz,Nat.pow_succ,Nat.mul_assoc,Nat.mul_add]
  omega
theorem qD (w:World) (v:Value) (n:Nat) (h:bj .u32 ah w v n) {j:Nat} (hj:Bd j n) (dz:j<=1000000000):Calls Tryz.prog 130 #[v] w (mK w (n/2)):=by
 obtain⟨A,c,rfl,ha⟩:=h
 have hl:=oI hj
 have sP:=aY ak n
 have wa:=bw ak n
 clear hj
 generalize ae ah n=a at *
 have hla:a.length<=100000000:=by omega
 clear hl
 have VA:=bx sP
 clear sP
 go_enter Tryz.func130,Tryz.ntmps130
 go_wp2_with (at_make; refine ck _ rfl _ _ _ rfl .u32 146 Tryz.underlying59 kM _ _ rfl rfl (by omega) (by omega) (by omega) ?_; intro w1 hrow bZ hsz)
 rw[Int.toNat_natCast]at hrow
 go_loopw [4] (λs4 wr=>∃(i:Nat) (o:List Nat),i<=a.length/\s4=.int .i64 i/\o.length=i/\Wf ah o/\Row wr .u32 146 w.heap.size (o++List.replicate (a.length-i) 0)/\Below w.heap.size w wr/\val ah o+ah^i*(val ah (a.drop i)/2)=n/2)
  (λs4 _=>a.length-(intOf s4).toNat)
 case atStart=>exact⟨0,[],by omega,rfl,rfl,Wf.nil _,by simpa using hrow,bZ,by simp[val]; rw[VA.out]⟩
 case round=>
  obtain⟨i,o,hi,rfl,dG,ee,hr,hbl,hval⟩:=hrel
  have cq:=bx hval
  have dy:=bx dG
  clear hval dG hrow bZ hsz
  by_cases hlt:i<a.length
  ·obtain⟨gx,ox,x,rfl,vf,jc⟩:=(ha.below hbl).get hlt
   obtain⟨vo,CF,Fi⟩:=hr.get (i:=i) (by have:=dy.out; simp; omega)
   have uf:=hr.frozen i
   have SB:(0:Int)<=(i:Int):=by omega
   have SC:(i:Int)<(a.length:Int):=by omega
   have hx1:=dY (wa _ (List.mem_of_getElem? jc.out))
   obtain⟨b2,o2,e2,Un⟩:=ha.at_ hlt
   injection e2 with e2
   injection e2 with e1 e2
   subst e1 e2
   have hgx:=World.block_lt_of_cell? w _ Un
   have hne:gx≠w.heap.size:=by
    have:gx<w.heap.size:=hgx
    omega
   clear Un hgx
   have hx2:(0:Int)<=(x:Int)/2:=by omega
   have Uy:∀z:Nat,Row (wr.setCell ⟨w.heap.size,i,none⟩ (.int .u32 (z:Int))) .u32 146 w.heap.size ((o++List.replicate (a.length-i) 0).set i z):=λz=>hr.set i z
   have Re:=bx Uy
   have Q0:Bx (∀u,Below w.heap.size w (wr.setCell ⟨w.heap.size,i,none⟩ u)):=bx (λu=>hbl.setCell (Nat.le_refl w.heap.size) u)
   clear Uy
   by_cases hn:i+1<a.length
   ·obtain⟨gy,oy,y,e1,Gg,qJ⟩:=(ha.below hbl).get hn
    injection e1 with e1
    injection e1 with e1 e2
    subst e1 e2
    have We:(wr.setCell ⟨w.heap.size,i,none⟩ (.int .u32 ((x:Int)/2))).cell? ⟨gx,ox+(i+1),none⟩=some (.int .u32 (y:Int)):=by
     rw[World.cell?_of_block (Below.heap_setCell wr ⟨w.heap.size,i,none⟩ _ gx hne)]; exact Gg
    rcases Nat.mod_two_eq_zero_or_one y with hy|hy
    ·have hy0:((y:Int)%2==1)=false:=beq_eq_false_iff_ne.2 (by omega)
     have HY:=bx hy
     clear hy
     go_wp2
     go_roundw
     case rel=>
      obtain⟨o',r⟩:=nK (z:=x/2) dy.out hlt ee wa jc.out (by rw[List.getD_eq_getElem?_getD,qJ.out]; rfl) HY.out (by omega) (Re.out (x/2)) (Q0.out _) cq.out
      exact⟨i+1,o',by omega,by go_num,r⟩
     case measure=>simp[intOf]; omega
    ·have hy0:((y:Int)%2==1)=true:=beq_iff_eq.2 (by omega)
     have HY:=bx hy
     clear hy
     go_wp2
     go_roundw
     case rel=>
      have hR:=(Re.out (x/2)).set i (x/2+2147483648)
      rw[List.set_set]at hR
      obtain⟨o',r⟩:=nK (z:=x/2+2147483648) dy.out hlt ee wa jc.out (by rw[List.getD_eq_getElem?_getD,qJ.out]; rfl) HY.out (by omega) hR ((Q0.out _).setCell (Nat.le_refl _) _) cq.out
      exact⟨i+1,o',by omega,by go_num,r⟩
     case measure=>simp[intOf]; omega
   ·go_wp2
    go_roundw
    case rel=>
     obtain⟨o',r⟩:=nK (z:=x/2) (y:=0) dy.out hlt ee wa jc.out (by rw[List.getD_eq_getElem?_getD,List.getElem?_eq_none (by omega)]; rfl) rfl (by omega) (Re.out (x/2)) (Q0.out _) cq.out
     exact⟨i+1,o',by omega,by go_num,r⟩
    case measure=>simp[intOf]; omega
  ·obtain rfl:i=a.length:=by omega
   have HF:=bx (show val ah o=n/2 by have:=cq.out; rw[List.drop_of_length_le (Nat.le_refl _)]at this; simpa [val] using this)
   rw[Nat.sub_self,List.replicate_zero,List.append_nil]at hr
   have hrd:=hr.ew (c:=a.length) (by have:=dy.out; omega) (by unfold maxLen; omega)
   go_wp2_with fail
   refine(qi _ _ _ o (n/2) hrd ee _ dy.out HF.out).mono ?_
   rintro e w' ⟨rfl,kn,rfl,hv⟩
   go_wp2
   go_ret
   exact⟨_,_,_,Nat.le_refl _,rfl,hv,hbl⟩
end Wx

namespace Wx
set_option maxRecDepth 100000
set_option maxHeartbeats 1000000
open Go Go.RowKit Go.Proofs
@[irreducible] def bdQ (r x d : Nat) : Nat := (r * 4294967296 + x) / d
@[irreducible] def bdR (r x d : Nat) : Nat := (r * 4294967296 + x) % d
variable {r x d:Nat}
theorem Cp (hd:0<d) (hr:r<d) (hx:x<ah):bdQ r x d*d+bdR r x d=r*ah+x/\bdR r x d<d/\bdQ r x d<ah:=by
 unfold bdQ bdR ah
 unfold ah at hx
 refine⟨by rw[Nat.mul_comm]; exact Nat.div_add_mod _ _,Nat.mod_lt _ hd,?_⟩
 rw[Nat.div_lt_iff_lt_mul hd]
 have:=Nat.mul_le_mul_right 4294967296 (Nat.succ_le_of_lt hr)
 rw[Nat.succ_mul,Nat.mul_comm d]at this
 omega
theorem LQ (hd:0<d) (hr:r<d) (hx:x<ah):
  ((r:Int)*4294967296+(x:Int))/(d:Int)%4294967296=((bdQ r x d:Nat):Int)/\((r:Int)*4294967296+(x:Int))%(d:Int)=((bdR r x d:Nat):Int):=by
 obtain⟨_,h2,h3⟩:=Cp hd hr hx
 have e:(r:Int)*4294967296+(x:Int)=((r*4294967296+x:Nat):Int):=by omega
 unfold bdQ bdR at *
 rw[e,<-Int.natCast_ediv,<-Int.natCast_emod]
 unfold ah at h3
 generalize (r*4294967296+x)/d=q at *
 omega
def Fz (w:World) (q r:Nat) (e:Ending) (w':World):Prop:=∃v,e=.returned (.tuple #[v,.int .u32 (r:Int)])/\bj .u32 ah w' v q/\Below w.heap.size w w'
theorem ym (w:World) (v1:Value) (m d:Nat) (h1:bj .u32 ah w v1 m) {j:Nat} (hj:Bd j m) (dz:j<=1000000000) (hd:0<d) (ug:d<ah):
  Calls Tryz.prog 119 #[v1,.int .u32 (d:Int)] w (Fz w (m/d) (m%d)):=by
 obtain⟨A,c,rfl,ha⟩:=h1
 have hl:=oI hj
 have sP:=aY ak m
 have wa:=bw ak m
 clear hj
 generalize ae ah m=a at *
 have hla:a.length<=100000000:=by omega
 clear hl
 have VA:=Lib.hid sP
 have uI:=Lib.hid ug
 have MB:=dY ug
 have hd0:(0:Int)<(d:Int):=by omega
 clear sP ug
 go_enter Tryz.func119,Tryz.ntmps119
 go_wp2_with (at_make; refine ck _ rfl _ _ _ rfl .u32 146 Tryz.underlying59 kM _ _ rfl rfl (by omega) (by omega) (by omega) ?_; intro w1 hrow bZ hsz)
 rw[Int.toNat_natCast]at hrow
 go_loopw [7,8] (λs7 s8 wr=>∃(i rest:Nat) (o:List Nat),i<=a.length/\s8=.int .i64 ((i:Int)-1)/\s7=.int .u64 (rest:Int)/\Bx (rest<d)/\Bx (o.length=a.length)/\Wf ah o/\Row wr .u32 146 w.heap.size o/\Below w.heap.size w wr/\Bx (val ah (a.drop i)=val ah (o.drop i)*d+rest))
  (λ_ s8 _=>(intOf s8+1).toNat)
 case atStart=>exact⟨a.length,0,List.replicate a.length 0,by omega,rfl,rfl,bx hd,bx (by simp),Wf.replicate (by unfold ah; omega) _,hrow,bZ,bx (by rw[List.drop_of_length_le (by omega),List.drop_of_length_le (by simp)]; simp[val])⟩
 case round=>
  obtain⟨i,rest,o,hi,rfl,rfl,IZ,dy,ee,hr,hbl,cq⟩:=hrel
  clear hrow bZ hsz
  rcases Nat.eq_zero_or_pos i with rfl|hpos
  ·rw[show(((0:Nat):Int)-1) = -1 by omega]
   have h:=cq.out
   rw[List.drop_zero,List.drop_zero,VA.out]at h
   obtain⟨e1,e2⟩:=kH h IZ.out
   have HF:=Lib.hid e1.symm
   have HG:=Lib.hid e2.symm
   clear h e1 e2
   have hrd:=hr.ew (c:=a.length) (by have:=dy.out; omega) (by unfold maxLen; omega)
   have hr1:(rest:Int)<=4294967295:=by have:=IZ.out; omega
   go_wp2_with fail
   refine(oO _ _ _ o (m/d) hrd ee _ dy.out HF.out).mono ?_
   rintro e w' ⟨rfl,v,rfl,hv⟩
   go_wp2
   rw[HG.out]
   go_ret2
   exact⟨_,rfl,hv,hbl⟩
  ·obtain⟨k,rfl⟩:∃k,i=k+1:=⟨i-1,by omega⟩
   rw[show(((k+1:Nat):Int)-1)=(k:Int) by omega]
   obtain⟨gx,ox,vx,rfl,vf,jc⟩:=(ha.below hbl).get (i:=k) (by omega)
   obtain⟨vo,CF,Fi⟩:=hr.get (i:=k) (by have:=dy.out; omega)
   have uf:=hr.frozen k
   have IK:Bx (vx<ah):=bx (wa _ (List.mem_of_getElem? jc.out))
   have oD:=dY IK.out
   have wR:(0:Int)<=(k:Int):=by omega
   have lE:(k:Int)<(a.length:Int):=by omega
   have hrx:(rest:Int)<=4294967294:=by have:=IZ.out; omega
   obtain⟨q1,q2⟩:=LQ hd IZ.out IK.out
   have Q1:=bx q1
   have Q2:=bx q2
   have HS:=bx (Cp hd IZ.out IK.out)
   clear q1 q2
   go_wp2_with fail
   rw[Q1.out,Q2.out]
   go_roundw
   case rel=>
    refine⟨k,_,o.set k (bdQ rest vx d),by omega,rfl,rfl,bx HS.out.2.1,bx (by rw[List.length_set]; exact dy.out),ee.set HS.out.2.2,hr.set _ _,hbl.setCell (Nat.le_refl _) _,bx ?_⟩
    rw[jy (by have:=dy.out; omega),jx jc.out,kz,kz]
    exact qw cq.out HS.out.1
   case measure=>simp[intOf]
end Wx
