import Derived.Test.YtadigiledciihaaGreatJRR16
namespace Wx
set_option maxRecDepth 100000
set_option maxHeartbeats 1000000
open Go Go.RowKit Go.Proofs
variable {n:Nat}
theorem y4 {t:Nat} (h0:0<n) (ht:(ae ai n)[(ae ai n).length-1]?=some t):aR n=32*((ae ai n).length-1)+aR t:=by
 have hl:=(aD (n:=n) aj).2 h0
 have hw:=bq aj n
 have yS:=jb aj n
 have hv:=aU aj n
 have eG:=ht
 obtain⟨hi,e⟩:=List.getElem?_eq_some_iff.1 ht
 have TV:0<t:=by
  rcases Nat.eq_zero_or_pos t with h|h
  ·exfalso
   apply yS
   rw[List.getLast?_eq_getElem?,ht,h]
  ·exact h
 have e1:=bD ai (ae ai n) ((ae ai n).length-1) (by omega)
 rw[js ai _ _ hi,e,List.drop_of_length_le (by omega),A6,Nat.mul_zero,Nat.add_zero,hv]at e1
 have By:=eE (hw.take ((ae ai n).length-1))
 rw[List.length_take,Nat.min_eq_left (by omega)]at By
 have hp:ai^((ae ai n).length-1)=2^(32*((ae ai n).length-1)):=by rw[pW,<-Nat.pow_mul]
 rw[hp]at e1 By
 exact sM TV By e1
theorem mS (w:World) (v:Value) (n:Nat) (h:aY .u32 ai w v n) {j:Nat} (hj:Bd j n) (cQ:j<=1000000000):Calls Tryz.prog 128 #[v] w λe w'=>e=.returned (.int .i64 (aR n:Nat))/\w=w':=by
 obtain⟨A,c,rfl,ha⟩:=h
 have hl:=nw hj
 rcases Nat.eq_zero_or_pos n with rfl|h0
 ·rw[aZ,gU]
  go_enter Tryz.func128,Tryz.ntmps128
  go_wp2
  go_ret
  exact⟨rfl,rfl⟩
 ·have PN:=(aD (n:=n) aj).2 h0
  obtain⟨b,o,t,rfl,hc,HT⟩:=ha.get (i:=(ae ai n).length-1) (by omega)
  have HN:=bx (y4 h0 HT.out)
  have NF:=dF (bq aj n _ (List.mem_of_getElem? HT.out))
  have Sm:=bx (show aR n<=1000000000 from Nat.le_trans (lp hj) cQ)
  clear HT ha hj h0
  have Fp:(ae ai n).length<=100000000:=by omega
  clear hl
  generalize (ae ai n).length=L at *
  obtain⟨K,rfl⟩:∃K,L=K+1:=⟨L-1,by omega⟩
  rw[Nat.add_sub_cancel]at hc HN
  have kT:(K:Int)<=100000000:=by omega
  clear Fp PN
  have yb:(((K+1:Nat):Int)==0)=false:=beq_eq_false_iff_ne.2 (by omega)
  go_enter Tryz.func128,Tryz.ntmps128
  go_wp2_with fail
  go_loop [3,4] (λs3 s4=>∃(m x:Nat),s3=.int .i64 (m:Int)/\s4=.int .u32 (x:Int)/\Bx (aR n=m+aR x)/\(x:Int)<=4294967295) (λ_ s4=>(intOf s4).toNat)
  case atStart=>exact⟨32*K,t,by go_num,rfl,HN,NF⟩
  case round=>
   obtain⟨m,x,rfl,rfl,HX,hx⟩:=hrel
   have hm:(m:Int)<=4000000000:=by have:=HX.out; have:=Sm.out; omega
   rcases Nat.eq_zero_or_pos x with rfl|hx0
   ·have e:=HX.out
    rw[gU,Nat.add_zero]at e
    have E:=bx e
    clear e
    go_wp2
    go_ret
    exact⟨fL (by rw[E.out]),rfl⟩
   ·have hx1:(0:Int)<(x:Int):=by omega
    have e:=HX.out
    rw[y5 hx0]at e
    have E:=bx e
    clear e
    go_wp2
    go_round
    case rel=>exact⟨m+1,x/2,by go_num,by go_num,bx (by rw[E.out]; omega),by omega⟩
    case measure=>simp[intOf]; omega
theorem sS {P:Program} (w:World) {ops:Array Oper} {rest:List Oper} {o:Oper} {a:Act} {Q:Exit->Act->World->Prop}
  (hg:o.guard=none) (l c:Operand) (t:TypeId) (hop:o.op=Op.makeSlice t l c)
  (k:IntKind) (e:TypeId) (h1:P.underlying t=some (.slice e)) (hi:(P.info? e).map (λi=>(i.zero,i.size,decide (i.bytes<=8)))=some (some (.int k 0),1,true))
  (C:Nat) (hl:a.eval l=.int .i64 C) (hc:a.eval c=.int .i64 C) (hC:C<=1099511627776)
  (hK:∀w',w'.ownsRow w.heap.size e 1 (.slice (some ⟨w.heap.size,0,none⟩) C C) C (er k (List.replicate C 0))->Below w.heap.size w w'->w'.heap.size=w.heap.size+1->wpList P ops Q rest (a.put o.dst (.slice (some ⟨w.heap.size,0,none⟩) C C)) w'):
  wpList P ops Q (o::rest) a w:=by
 obtain⟨i,h2,hzz⟩:=Option.map_eq_some_iff.1 hi
 simp only[Prod.mk.injEq,decide_eq_true_eq]at hzz
 obtain⟨hz,hs,hb⟩:=hzz
 refine wpList_plain hg λK hK'=>?_
 have hbytes:(i.bytes:Int)*(C:Int)<=281474976710656:=by
  have h8:(i.bytes:Int)<=8:=by omega
  have:=Int.mul_le_mul_of_nonneg_right h8 (show 0<=(C:Int) by omega)
  omega
 have hrun:=run_make (P:=P) w t e i (.int k 0) h1 h2 hz .i64 .i64 C C (by omega) (by omega) hbytes (by omega)
 rw[hs,Nat.mul_one]at hrun
 unfold Oper.wp
 simp only[execOp,hop,hl,hc,Sem.run_bind,hrun,Result.andThen]
 simp only[Sem.run_pure,Oper.upon]
 refine hK' _ _ (hK _ ?_ ((Below.refl _ _).alloc (Nat.le_refl _) _) (by simp))
 simp only[Value.cells,mc,Int.toNat_natCast]
 refine⟨by simp[dA],.inr ⟨w.heap.size,C,_,rfl,Nat.le_refl _,heap_alloc_new _ _,Nat.le_refl _,by unfold maxLen; omega,by simp[dA],by rw[Nat.mul_one,List.toList_toArray,List.take_of_length_le (by simp[dA])]⟩⟩
theorem zD {l r:List Nat} (h:r≠[]) (ht:mO r):mO (l++r):=by
 unfold mO at *
 rw[List.getLast?_append]
 obtain⟨x,hx⟩:∃x,r.getLast?=some x:=⟨r.getLast h,List.getLast?_eq_some_getLast h⟩
 rw[hx]at ht ⊢
 simpa using ht
theorem zx {k:Nat} (h:0<n):List.replicate k 0++ae ai n=ae ai (ai^k*n):=by
 have hne:ae ai n≠[]:=List.length_pos_iff.1 ((aD aj).2 h)
 have e:val ai (List.replicate k 0++ae ai n)=ai^k*n:=by
  rw[fF,ez,List.length_replicate,Nat.zero_add,aU aj]
 rw[<-e]
 exact(kI aj ((Wf.replicate (by unfold ai; omega) k).append (bq aj n)) (zD hne (jb aj n))).symm
theorem vh (w:World) (v:Value) (n k:Nat) (h:aY .u32 ai w v n) (h0:0<n) {j:Nat} (hj:Bd j n) (cQ:j<=100000000) (hk:k<=100000000):Calls Tryz.prog 129 #[v,.int .i64 (k:Int)] w (lI w (n*2^k)):=by
 obtain⟨A,c,rfl,ha⟩:=h
 have hl:=nw hj
 have PN:=(aD (n:=n) aj).2 h0
 obtain⟨b,o,t,rfl,_,_⟩:=ha.get (i:=0) PN
 have Fp:(ae ai n).length<=100000000:=by omega
 clear hl
 have HE:=bx (zx (k:=k/32) h0)
 have HP:=bx (show ai^(k/32)*n*2^(k%32)=n*2^k by
  rw[pW,<-Nat.pow_mul,Nat.mul_comm (2^(32*(k/32))) n,Nat.mul_assoc,<-Nat.pow_add,Nat.div_add_mod])
 have HJ:Bx (Bd (k+j) (ai^(k/32)*n)):=bx (by
  have e:ai^(k/32)=2^(32*(k/32)):=by rw[pW,<-Nat.pow_mul]
  have h2:=hj
  unfold Bd at *
  rw[e,Nat.pow_add]
  have h3:2^(32*(k/32))<=2^k:=Nat.pow_le_pow_right (by omega) (by omega)
  exact Nat.lt_of_le_of_lt (Nat.mul_le_mul_right _ h3) (Nat.mul_lt_mul_of_pos_left h2 (Nat.two_pow_pos k)))
 clear hj
 generalize ae ai n=l at *
 go_enter Tryz.func129,Tryz.ntmps129
 go_wp2_with (first
  |(at_make; refine sS _ rfl _ _ _ rfl .u32 146 Tryz.underlying59 jD (k/32) rfl rfl (by omega) ?_; intro w1 hown bT hsz; have hown:w1.ownsRow w.heap.size 146 1 (.slice (some ⟨w.heap.size,0,none⟩) (k/32) (k/32)) (List.replicate (k/32) 0).length (er .u32 (List.replicate (k/32) 0)):=by rw[List.length_replicate]; exact hown)
  |(at_builtin; refine mN _ rfl (.tmp 9) (.tmp 10) _ rfl .u32 146 w.heap.size Tryz.underlying59 jD (.slice (some ⟨w.heap.size,0,none⟩) (k/32) (k/32)) (List.replicate (k/32) 0) rfl hown _ _ _ l _ rfl rfl (ha.below bT) (by simp; omega) (by have:=bT.size; omega) ?_; intro U A4 c4 w4 HU ni hg4))
 have hp2:2^(k%32)<2^32:=Nat.pow_lt_pow_right (by omega) (by omega)
 have W2:=bx (show IntKind.u64.wrap ((2:Int)^(k%32))=((2^(k%32):Nat):Int) by
  have e:((2:Int)^(k%32))=((2^(k%32):Nat):Int):=by simp
  rw[e]
  generalize 2^(k%32)=P at hp2 ⊢
  exact wrap_u64 (by omega) (by omega))
 rw[W2.out]
 have FV:Below w.heap.size w w4:=bT.grown hg4 (by omega) (by intro g hg; simp[Value.ownBlock]at hg; omega)
 have hN:aY .u32 ai w4 (.slice A4 U.length c4) (ai^(k/32)*n):=⟨A4,c4,by rw[HU.out,HE.out],by rw[<-HE.out,<-HU.out]; exact zn ni⟩
 refine Calls.mono (iw w4 (2^(k%32)) (by unfold b64; omega)) ?_
 rintro e w5 ⟨v5,rfl,h5,Ih⟩
 clear hp2
 go_wp2_with fail
 refine Calls.mono (nJ w5 _ _ _ _ (hN.below Ih) h5 (j:=k+j) (k:=32) (HJ.out) (Nat.pow_lt_pow_right (by omega) (by omega)) (by omega) (by omega)) ?_
 rintro e w6 ⟨g6,L6,c6,RE,rfl,h6,JL⟩
 go_wp2
 go_ret
 rw[HP.out]at h6
 exact⟨g6,_,_,Nat.le_trans (Nat.le_trans FV.size Ih.size) RE,rfl,h6,(FV.trans (Ih.mono FV.size)).trans (JL.mono (Nat.le_trans FV.size Ih.size))⟩
end Wx

namespace Wx
set_option maxRecDepth 100000
set_option maxHeartbeats 1000000
open Go Go.RowKit Go.Proofs
variable {i:Nat}
theorem sQ {l:List Nat}:val ai (l.drop i)%2=l.getD i 0%2:=by
 by_cases h:i<l.length
 ·rw[js ai l i h,List.getD_eq_getElem?_getD,List.getElem?_eq_getElem h,Option.getD_some]
  unfold ai; omega
 ·rw[List.drop_of_length_le (by omega),List.getD_eq_getElem?_getD,List.getElem?_eq_none (by omega)]; rfl
theorem mC {a o:List Nat} {x y d z L g T:Nat} {wr w0:World} (cS:o.length=i) (hlt:i<L) (dI:Wf ai o) (TZ:Wf ai a) (hx:a[i]?=some x) (hy:a.getD (i+1) 0=y) (hd:y%2=d) (hz:z=x/2+2147483648*d)
  (hr:Row wr .u32 146 g ((o++List.replicate (L-i) 0).set i z)) (hbl:Below w0.heap.size w0 wr)
  (hval:val ai o+ai^i*(val ai (a.drop i)/2)=T):
  ∃(o':List Nat),o'.length=i+1/\Wf ai o'/\Row wr .u32 146 g (o'++List.replicate (L-(i+1)) 0)/\Below w0.heap.size w0 wr/\val ai o'+ai^(i+1)*(val ai (a.drop (i+1))/2)=T:=by
 have fO:x<ai:=TZ _ (List.mem_of_getElem? hx)
 have hzb:z<ai:=by
  subst hz
  have:d<=1:=by omega
  unfold ai at *; omega
 refine⟨o++[z],by simp[cS],dI.append (Wf.cons hzb (Wf.nil _)),?_,hbl,?_⟩
 ·rw[show L-i=(L-(i+1))+1 by omega,List.replicate_succ,iE cS]at hr
  rw[List.append_assoc]
  exact hr
 ·rw[<-hval,jt,cS,iL hx,jr]
  have hm:=sQ (l:=a) (i:=i+1)
  rw[hy,hd]at hm
  have h:=Bv (x:=x) hm
  have e:ai=4294967296:=rfl
  rw[<-e]at h
  rw[h,<-hz,Nat.pow_succ,Nat.mul_assoc,Nat.mul_add]
  omega
theorem oZ (w:World) (v:Value) (n:Nat) (h:aY .u32 ai w v n) {j:Nat} (hj:Bd j n) (cQ:j<=1000000000):Calls Tryz.prog 130 #[v] w (lI w (n/2)):=by
 obtain⟨A,c,rfl,ha⟩:=h
 have hl:=nw hj
 have qZ:=aU aj n
 have wa:=bq aj n
 clear hj
 generalize ae ai n=a at *
 have hla:a.length<=100000000:=by omega
 clear hl
 have VA:=bx qZ
 clear qZ
 go_enter Tryz.func130,Tryz.ntmps130
 go_wp2_with (at_make; refine bW _ rfl _ _ _ rfl .u32 146 Tryz.underlying59 jD _ _ rfl rfl (by omega) (by omega) (by omega) ?_; intro w1 hrow bT hsz)
 rw[Int.toNat_natCast]at hrow
 go_loopw [4] (λs4 wr=>∃(i:Nat) (o:List Nat),i<=a.length/\s4=.int .i64 i/\o.length=i/\Wf ai o/\Row wr .u32 146 w.heap.size (o++List.replicate (a.length-i) 0)/\Below w.heap.size w wr/\val ai o+ai^i*(val ai (a.drop i)/2)=n/2)
  (λs4 _=>a.length-(intOf s4).toNat)
 case atStart=>exact⟨0,[],by omega,rfl,rfl,Wf.nil _,by simpa using hrow,bT,by simp[val]; rw[VA.out]⟩
 case round=>
  obtain⟨i,o,hi,rfl,cS,dI,hr,hbl,hval⟩:=hrel
  have bY:=bx hval
  have cM:=bx cS
  clear hval cS hrow bT hsz
  by_cases hlt:i<a.length
  ·obtain⟨gx,ox,x,rfl,tB,ig⟩:=(ha.below hbl).get hlt
   obtain⟨vo,Aj,CD⟩:=hr.get (i:=i) (by have:=cM.out; simp; omega)
   have su:=hr.frozen i
   have PF:(0:Int)<=(i:Int):=by omega
   have PG:(i:Int)<(a.length:Int):=by omega
   have hx1:=dF (wa _ (List.mem_of_getElem? ig.out))
   obtain⟨b2,o2,e2,RD⟩:=ha.at_ hlt
   injection e2 with e2
   injection e2 with e1 e2
   subst e1 e2
   have hgx:=World.block_lt_of_cell? w _ RD
   have hne:gx≠w.heap.size:=by
    have:gx<w.heap.size:=hgx
    omega
   clear RD hgx
   have hx2:(0:Int)<=(x:Int)/2:=by omega
   have RP:∀z:Nat,Row (wr.setCell ⟨w.heap.size,i,none⟩ (.int .u32 (z:Int))) .u32 146 w.heap.size ((o++List.replicate (a.length-i) 0).set i z):=λz=>hr.set i z
   have N6:=bx RP
   have NT:Bx (∀u,Below w.heap.size w (wr.setCell ⟨w.heap.size,i,none⟩ u)):=bx (λu=>hbl.setCell (Nat.le_refl w.heap.size) u)
   clear RP
   by_cases hn:i+1<a.length
   ·obtain⟨gy,oy,y,e1,Dm,po⟩:=(ha.below hbl).get hn
    injection e1 with e1
    injection e1 with e1 e2
    subst e1 e2
    have Tr:(wr.setCell ⟨w.heap.size,i,none⟩ (.int .u32 ((x:Int)/2))).cell? ⟨gx,ox+(i+1),none⟩=some (.int .u32 (y:Int)):=by
     rw[World.cell?_of_block (Below.heap_setCell wr ⟨w.heap.size,i,none⟩ _ gx hne)]; exact Dm
    rcases Nat.mod_two_eq_zero_or_one y with hy|hy
    ·have hy0:((y:Int)%2==1)=false:=beq_eq_false_iff_ne.2 (by omega)
     have HY:=bx hy
     clear hy
     go_wp2
     go_roundw
     case rel=>
      obtain⟨o',r⟩:=mC (z:=x/2) cM.out hlt dI wa ig.out (by rw[List.getD_eq_getElem?_getD,po.out]; rfl) HY.out (by omega) (N6.out (x/2)) (NT.out _) bY.out
      exact⟨i+1,o',by omega,by go_num,r⟩
     case measure=>simp[intOf]; omega
    ·have hy0:((y:Int)%2==1)=true:=beq_iff_eq.2 (by omega)
     have HY:=bx hy
     clear hy
     go_wp2
     go_roundw
     case rel=>
      have hR:=(N6.out (x/2)).set i (x/2+2147483648)
      rw[List.set_set]at hR
      obtain⟨o',r⟩:=mC (z:=x/2+2147483648) cM.out hlt dI wa ig.out (by rw[List.getD_eq_getElem?_getD,po.out]; rfl) HY.out (by omega) hR ((NT.out _).setCell (Nat.le_refl _) _) bY.out
      exact⟨i+1,o',by omega,by go_num,r⟩
     case measure=>simp[intOf]; omega
   ·go_wp2
    go_roundw
    case rel=>
     obtain⟨o',r⟩:=mC (z:=x/2) (y:=0) cM.out hlt dI wa ig.out (by rw[List.getD_eq_getElem?_getD,List.getElem?_eq_none (by omega)]; rfl) rfl (by omega) (N6.out (x/2)) (NT.out _) bY.out
     exact⟨i+1,o',by omega,by go_num,r⟩
    case measure=>simp[intOf]; omega
  ·obtain rfl:i=a.length:=by omega
   have HF:=bx (show val ai o=n/2 by have:=bY.out; rw[List.drop_of_length_le (Nat.le_refl _)]at this; simpa [val] using this)
   rw[Nat.sub_self,List.replicate_zero,List.append_nil]at hr
   have hrd:=hr.dO (c:=a.length) (by have:=cM.out; omega) (by unfold maxLen; omega)
   go_wp2_with fail
   refine(oC _ _ _ o (n/2) hrd dI _ cM.out HF.out).mono ?_
   rintro e w' ⟨rfl,kn,rfl,hv⟩
   go_wp2
   go_ret
   exact⟨_,_,_,Nat.le_refl _,rfl,hv,hbl⟩
end Wx

namespace Wx
set_option maxRecDepth 100000
set_option maxHeartbeats 1000000
open Go Go.RowKit Go.Proofs
@[irreducible] def bdQ (r x d : Nat) : Nat := (r * 4294967296 + x) / d
@[irreducible] def bdR (r x d : Nat) : Nat := (r * 4294967296 + x) % d
variable {r x d:Nat}
theorem zW (hd:0<d) (hr:r<d) (hx:x<ai):bdQ r x d*d+bdR r x d=r*ai+x/\bdR r x d<d/\bdQ r x d<ai:=by
 unfold bdQ bdR ai
 unfold ai at hx
 refine⟨by rw[Nat.mul_comm]; exact Nat.div_add_mod _ _,Nat.mod_lt _ hd,?_⟩
 rw[Nat.div_lt_iff_lt_mul hd]
 have:=Nat.mul_le_mul_right 4294967296 (Nat.succ_le_of_lt hr)
 rw[Nat.succ_mul,Nat.mul_comm d]at this
 omega
theorem Jg (hd:0<d) (hr:r<d) (hx:x<ai):
  ((r:Int)*4294967296+(x:Int))/(d:Int)%4294967296=((bdQ r x d:Nat):Int)/\((r:Int)*4294967296+(x:Int))%(d:Int)=((bdR r x d:Nat):Int):=by
 obtain⟨_,h2,h3⟩:=zW hd hr hx
 have e:(r:Int)*4294967296+(x:Int)=((r*4294967296+x:Nat):Int):=by omega
 unfold bdQ bdR at *
 rw[e,<-Int.natCast_ediv,<-Int.natCast_emod]
 unfold ai at h3
 generalize (r*4294967296+x)/d=q at *
 omega
def CO (w:World) (q r:Nat) (e:Ending) (w':World):Prop:=∃v,e=.returned (.tuple #[v,.int .u32 (r:Int)])/\aY .u32 ai w' v q/\Below w.heap.size w w'
theorem we (w:World) (v1:Value) (m d:Nat) (h1:aY .u32 ai w v1 m) {j:Nat} (hj:Bd j m) (cQ:j<=1000000000) (hd:0<d) (sw:d<ai):
  Calls Tryz.prog 119 #[v1,.int .u32 (d:Int)] w (CO w (m/d) (m%d)):=by
 obtain⟨A,c,rfl,ha⟩:=h1
 have hl:=nw hj
 have qZ:=aU aj m
 have wa:=bq aj m
 clear hj
 generalize ae ai m=a at *
 have hla:a.length<=100000000:=by omega
 clear hl
 have VA:=Lib.hid qZ
 have sV:=Lib.hid sw
 have JP:=dF sw
 have hd0:(0:Int)<(d:Int):=by omega
 clear qZ sw
 go_enter Tryz.func119,Tryz.ntmps119
 go_wp2_with (at_make; refine bW _ rfl _ _ _ rfl .u32 146 Tryz.underlying59 jD _ _ rfl rfl (by omega) (by omega) (by omega) ?_; intro w1 hrow bT hsz)
 rw[Int.toNat_natCast]at hrow
 go_loopw [7,8] (λs7 s8 wr=>∃(i rest:Nat) (o:List Nat),i<=a.length/\s8=.int .i64 ((i:Int)-1)/\s7=.int .u64 (rest:Int)/\Bx (rest<d)/\Bx (o.length=a.length)/\Wf ai o/\Row wr .u32 146 w.heap.size o/\Below w.heap.size w wr/\Bx (val ai (a.drop i)=val ai (o.drop i)*d+rest))
  (λ_ s8 _=>(intOf s8+1).toNat)
 case atStart=>exact⟨a.length,0,List.replicate a.length 0,by omega,rfl,rfl,bx hd,bx (by simp),Wf.replicate (by unfold ai; omega) _,hrow,bT,bx (by rw[List.drop_of_length_le (by omega),List.drop_of_length_le (by simp)]; simp[val])⟩
 case round=>
  obtain⟨i,rest,o,hi,rfl,rfl,Fx,cM,dI,hr,hbl,bY⟩:=hrel
  clear hrow bT hsz
  rcases Nat.eq_zero_or_pos i with rfl|hpos
  ·rw[show(((0:Nat):Int)-1) = -1 by omega]
   have h:=bY.out
   rw[List.drop_zero,List.drop_zero,VA.out]at h
   obtain⟨e1,e2⟩:=jx h Fx.out
   have HF:=Lib.hid e1.symm
   have HG:=Lib.hid e2.symm
   clear h e1 e2
   have hrd:=hr.dO (c:=a.length) (by have:=cM.out; omega) (by unfold maxLen; omega)
   have hr1:(rest:Int)<=4294967295:=by have:=Fx.out; omega
   go_wp2_with fail
   refine(nC _ _ _ o (m/d) hrd dI _ cM.out HF.out).mono ?_
   rintro e w' ⟨rfl,v,rfl,hv⟩
   go_wp2
   rw[HG.out]
   go_ret2
   exact⟨_,rfl,hv,hbl⟩
  ·obtain⟨k,rfl⟩:∃k,i=k+1:=⟨i-1,by omega⟩
   rw[show(((k+1:Nat):Int)-1)=(k:Int) by omega]
   obtain⟨gx,ox,vx,rfl,tB,ig⟩:=(ha.below hbl).get (i:=k) (by omega)
   obtain⟨vo,Aj,CD⟩:=hr.get (i:=k) (by have:=cM.out; omega)
   have su:=hr.frozen k
   have Fh:Bx (vx<ai):=bx (wa _ (List.mem_of_getElem? ig.out))
   have nk:=dF Fh.out
   have yb:(0:Int)<=(k:Int):=by omega
   have kT:(k:Int)<(a.length:Int):=by omega
   have hrx:(rest:Int)<=4294967294:=by have:=Fx.out; omega
   obtain⟨q1,q2⟩:=Jg hd Fx.out Fh.out
   have Q1:=bx q1
   have Q2:=bx q2
   have HS:=bx (zW hd Fx.out Fh.out)
   clear q1 q2
   go_wp2_with fail
   rw[Q1.out,Q2.out]
   go_roundw
   case rel=>
    refine⟨k,_,o.set k (bdQ rest vx d),by omega,rfl,rfl,bx HS.out.2.1,bx (by rw[List.length_set]; exact cM.out),dI.set HS.out.2.2,hr.set _ _,hbl.setCell (Nat.le_refl _) _,bx ?_⟩
    rw[iM (by have:=cM.out; omega),iL ig.out,jr,jr]
    exact oN bY.out HS.out.1
   case measure=>simp[intOf]
end Wx
