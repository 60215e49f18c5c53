import Derived.Test.YtadigiledciihaaGreatJRD17
namespace Wx
set_option maxRecDepth 100000
set_option maxHeartbeats 1000000
open Go Go.RowKit Go.Proofs
variable {n:Nat}
theorem zw {t:Nat} (h0:0<n) (ht:(ae ai n)[(ae ai n).length-1]?=some t):aO n=32*((ae ai n).length-1)+aO t:=by
 have hl:=(ax (n:=n) aj).2 h0
 have hw:=bf aj n
 have zi:=iK aj n
 have hv:=aR aj n
 have jO:=ht
 obtain⟨hi,e⟩:=List.getElem?_eq_some_iff.1 ht
 have Ua:0<t:=by
  rcases Nat.eq_zero_or_pos t with h|h
  ·exfalso
   apply zi
   rw[List.getLast?_eq_getElem?,ht,h]
  ·exact h
 have e1:=bB ai (ae ai n) ((ae ai n).length-1) (by omega)
 rw[jc ai _ _ hi,e,List.drop_of_length_le (by omega),BH,Nat.mul_zero,Nat.add_zero,hv]at e1
 have Cf:=ek (hw.take ((ae ai n).length-1))
 rw[List.length_take,Nat.min_eq_left (by omega)]at Cf
 have hp:ai^((ae ai n).length-1)=2^(32*((ae ai n).length-1)):=by rw[pK,<-Nat.pow_mul]
 rw[hp]at e1 Cf
 exact sI Ua Cf e1
theorem mI (w:World) (v:Value) (n:Nat) (h:aV .u32 ai w v n) {j:Nat} (hj:Bd j n) (cQ:j<=1000000000):Calls Tryz.prog 128 #[v] w λe w'=>e=.returned (.int .i64 (aO n:Nat))/\w=w':=by
 obtain⟨A,c,rfl,ha⟩:=h
 have hl:=mZ hj
 rcases Nat.eq_zero_or_pos n with rfl|h0
 ·rw[aX,gp]
  go_enter Tryz.func128,Tryz.ntmps128
  go_wp2
  go_ret
  exact⟨rfl,rfl⟩
 ·have P8:=(ax (n:=n) aj).2 h0
  obtain⟨b,o,t,rfl,hc,HT⟩:=ha.get (i:=(ae ai n).length-1) (by omega)
  have HN:=bx (zw h0 HT.out)
  have N5:=dm (bf aj n _ (List.mem_of_getElem? HT.out))
  have SC:=bx (show aO n<=1000000000 from Nat.le_trans (kK hj) cQ)
  clear HT ha hj h0
  have FZ:(ae ai n).length<=100000000:=by omega
  clear hl
  generalize (ae ai n).length=L at *
  obtain⟨K,rfl⟩:∃K,L=K+1:=⟨L-1,by omega⟩
  rw[Nat.add_sub_cancel]at hc HN
  have lQ:(K:Int)<=100000000:=by omega
  clear FZ P8
  have yx:(((K+1:Nat):Int)==0)=false:=beq_eq_false_iff_ne.2 (by omega)
  go_enter Tryz.func128,Tryz.ntmps128
  go_wp2_with fail
  go_loop [3,4] (λs3 s4=>∃(m x:Nat),s3=.int .i64 (m:Int)/\s4=.int .u32 (x:Int)/\Bx (aO n=m+aO x)/\(x:Int)<=4294967295) (λ_ s4=>(intOf s4).toNat)
  case atStart=>exact⟨32*K,t,by go_num,rfl,HN,N5⟩
  case round=>
   obtain⟨m,x,rfl,rfl,HX,hx⟩:=hrel
   have hm:(m:Int)<=4000000000:=by have:=HX.out; have:=SC.out; omega
   rcases Nat.eq_zero_or_pos x with rfl|hx0
   ·have e:=HX.out
    rw[gp,Nat.add_zero]at e
    have E:=bx e
    clear e
    go_wp2
    go_ret
    exact⟨eY (by rw[E.out]),rfl⟩
   ·have hx1:(0:Int)<(x:Int):=by omega
    have e:=HX.out
    rw[zx hx0]at e
    have E:=bx e
    clear e
    go_wp2
    go_round
    case rel=>exact⟨m+1,x/2,by go_num,by go_num,bx (by rw[E.out]; omega),by omega⟩
    case measure=>simp[intOf]; omega
theorem sS {P:Program} (w:World) {ops:Array Oper} {rest:List Oper} {o:Oper} {a:Act} {Q:Exit->Act->World->Prop}
  (hg:o.guard=none) (l c:Operand) (t:TypeId) (hop:o.op=Op.makeSlice t l c)
  (k:IntKind) (e:TypeId) (h1:P.underlying t=some (.slice e)) (hi:(P.info? e).map (λi=>(i.zero,i.size,decide (i.bytes<=8)))=some (some (.int k 0),1,true))
  (C:Nat) (hl:a.eval l=.int .i64 C) (hc:a.eval c=.int .i64 C) (hC:C<=1099511627776)
  (hK:∀w',w'.ownsRow w.heap.size e 1 (.slice (some ⟨w.heap.size,0,none⟩) C C) C (dX k (List.replicate C 0))->Below w.heap.size w w'->w'.heap.size=w.heap.size+1->wpList P ops Q rest (a.put o.dst (.slice (some ⟨w.heap.size,0,none⟩) C C)) w'):
  wpList P ops Q (o::rest) a w:=by
 obtain⟨i,h2,hzz⟩:=Option.map_eq_some_iff.1 hi
 simp only[Prod.mk.injEq,decide_eq_true_eq]at hzz
 obtain⟨hz,hs,hb⟩:=hzz
 refine wpList_plain hg λK hK'=>?_
 have hbytes:(i.bytes:Int)*(C:Int)<=281474976710656:=by
  have h8:(i.bytes:Int)<=8:=by omega
  have:=Int.mul_le_mul_of_nonneg_right h8 (show 0<=(C:Int) by omega)
  omega
 have hrun:=run_make (P:=P) w t e i (.int k 0) h1 h2 hz .i64 .i64 C C (by omega) (by omega) hbytes (by omega)
 rw[hs,Nat.mul_one]at hrun
 unfold Oper.wp
 simp only[execOp,hop,hl,hc,Sem.run_bind,hrun,Result.andThen]
 simp only[Sem.run_pure,Oper.upon]
 refine hK' _ _ (hK _ ?_ ((Below.refl _ _).alloc (Nat.le_refl _) _) (by simp))
 simp only[Value.cells,lR,Int.toNat_natCast]
 refine⟨by simp[dh],.inr ⟨w.heap.size,C,_,rfl,Nat.le_refl _,heap_alloc_new _ _,Nat.le_refl _,by unfold maxLen; omega,by simp[dh],by rw[Nat.mul_one,List.toList_toArray,List.take_of_length_le (by simp[dh])]⟩⟩
theorem zX {l r:List Nat} (h:r≠[]) (ht:mF r):mF (l++r):=by
 unfold mF at *
 rw[List.getLast?_append]
 obtain⟨x,hx⟩:∃x,r.getLast?=some x:=⟨r.getLast h,List.getLast?_eq_some_getLast h⟩
 rw[hx]at ht ⊢
 simpa using ht
theorem zR {k:Nat} (h:0<n):List.replicate k 0++ae ai n=ae ai (ai^k*n):=by
 have hne:ae ai n≠[]:=List.length_pos_iff.1 ((ax aj).2 h)
 have e:val ai (List.replicate k 0++ae ai n)=ai^k*n:=by
  rw[eR,dZ,List.length_replicate,Nat.zero_add,aR aj]
 rw[<-e]
 exact(ki aj ((Wf.replicate (by unfold ai; omega) k).append (bf aj n)) (zX hne (iK aj n))).symm
theorem vB (w:World) (v:Value) (n k:Nat) (h:aV .u32 ai w v n) (h0:0<n) {j:Nat} (hj:Bd j n) (cQ:j<=100000000) (hk:k<=100000000):Calls Tryz.prog 129 #[v,.int .i64 (k:Int)] w (kZ w (n*2^k)):=by
 obtain⟨A,c,rfl,ha⟩:=h
 have hl:=mZ hj
 have P8:=(ax (n:=n) aj).2 h0
 obtain⟨b,o,t,rfl,_,_⟩:=ha.get (i:=0) P8
 have FZ:(ae ai n).length<=100000000:=by omega
 clear hl
 have HE:=bx (zR (k:=k/32) h0)
 have HP:=bx (show ai^(k/32)*n*2^(k%32)=n*2^k by
  rw[pK,<-Nat.pow_mul,Nat.mul_comm (2^(32*(k/32))) n,Nat.mul_assoc,<-Nat.pow_add,Nat.div_add_mod])
 have HJ:Bx (Bd (k+j) (ai^(k/32)*n)):=bx (by
  have e:ai^(k/32)=2^(32*(k/32)):=by rw[pK,<-Nat.pow_mul]
  have h2:=hj
  unfold Bd at *
  rw[e,Nat.pow_add]
  have h3:2^(32*(k/32))<=2^k:=Nat.pow_le_pow_right (by omega) (by omega)
  exact Nat.lt_of_le_of_lt (Nat.mul_le_mul_right _ h3) (Nat.mul_lt_mul_of_pos_left h2 (Nat.two_pow_pos k)))
 clear hj
 generalize ae ai n=l at *
 go_enter Tryz.func129,Tryz.ntmps129
 go_wp2_with (first
  |(at_make; refine sS _ rfl _ _ _ rfl .u32 146 Tryz.underlying59 jn (k/32) rfl rfl (by omega) ?_; intro w1 hown bL hsz; have hown:w1.ownsRow w.heap.size 146 1 (.slice (some ⟨w.heap.size,0,none⟩) (k/32) (k/32)) (List.replicate (k/32) 0).length (dX .u32 (List.replicate (k/32) 0)):=by rw[List.length_replicate]; exact hown)
  |(at_builtin; refine mE _ rfl (.tmp 9) (.tmp 10) _ rfl .u32 146 w.heap.size Tryz.underlying59 jn (.slice (some ⟨w.heap.size,0,none⟩) (k/32) (k/32)) (List.replicate (k/32) 0) rfl hown _ _ _ l _ rfl rfl (ha.below bL) (by simp; omega) (by have:=bL.size; omega) ?_; intro U A4 c4 w4 HU mS hg4))
 have hp2:2^(k%32)<2^32:=Nat.pow_lt_pow_right (by omega) (by omega)
 have W2:=bx (show IntKind.u64.wrap ((2:Int)^(k%32))=((2^(k%32):Nat):Int) by
  have e:((2:Int)^(k%32))=((2^(k%32):Nat):Int):=by simp
  rw[e]
  generalize 2^(k%32)=P at hp2 ⊢
  exact wrap_u64 (by omega) (by omega))
 rw[W2.out]
 have Gr:Below w.heap.size w w4:=bL.grown hg4 (by omega) (by intro g hg; simp[Value.ownBlock]at hg; omega)
 have hN:aV .u32 ai w4 (.slice A4 U.length c4) (ai^(k/32)*n):=⟨A4,c4,by rw[HU.out,HE.out],by rw[<-HE.out,<-HU.out]; exact zN mS⟩
 refine Calls.mono (gO w4 (2^(k%32)) (by unfold b64; omega)) ?_
 rintro e w5 ⟨v5,rfl,h5,IJ⟩
 clear hp2
 go_wp2_with fail
 refine Calls.mono (nx w5 _ _ _ _ (hN.below IJ) h5 (j:=k+j) (k:=32) (HJ.out) (Nat.pow_lt_pow_right (by omega) (by omega)) (by omega) (by omega)) ?_
 rintro e w6 ⟨g6,L6,c6,RP,rfl,h6,J8⟩
 go_wp2
 go_ret
 rw[HP.out]at h6
 exact⟨g6,_,_,Nat.le_trans (Nat.le_trans Gr.size IJ.size) RP,rfl,h6,(Gr.trans (IJ.mono Gr.size)).trans (J8.mono (Nat.le_trans Gr.size IJ.size))⟩
end Wx

namespace Wx
set_option maxRecDepth 100000
set_option maxHeartbeats 1000000
open Go Go.RowKit Go.Proofs
variable {i:Nat}
theorem sQ {l:List Nat}:val ai (l.drop i)%2=l.getD i 0%2:=by
 by_cases h:i<l.length
 ·rw[jc ai l i h,List.getD_eq_getElem?_getD,List.getElem?_eq_getElem h,Option.getD_some]
  unfold ai; omega
 ·rw[List.drop_of_length_le (by omega),List.getD_eq_getElem?_getD,List.getElem?_eq_none (by omega)]; rfl
theorem mj {a o:List Nat} {x y d z L g T:Nat} {wr w0:World} (cG:o.length=i) (hlt:i<L) (dw:Wf ai o) (Uf:Wf ai a) (hx:a[i]?=some x) (hy:a.getD (i+1) 0=y) (hd:y%2=d) (hz:z=x/2+2147483648*d)
  (hr:Row wr .u32 146 g ((o++List.replicate (L-i) 0).set i z)) (hbl:Below w0.heap.size w0 wr)
  (hval:val ai o+ai^i*(val ai (a.drop i)/2)=T):
  ∃(o':List Nat),o'.length=i+1/\Wf ai o'/\Row wr .u32 146 g (o'++List.replicate (L-(i+1)) 0)/\Below w0.heap.size w0 wr/\val ai o'+ai^(i+1)*(val ai (a.drop (i+1))/2)=T:=by
 have gH:x<ai:=Uf _ (List.mem_of_getElem? hx)
 have hzb:z<ai:=by
  subst hz
  have:d<=1:=by omega
  unfold ai at *; omega
 refine⟨o++[z],by simp[cG],dw.append (Wf.cons hzb (Wf.nil _)),?_,hbl,?_⟩
 ·rw[show L-i=(L-(i+1))+1 by omega,List.replicate_succ,gU cG]at hr
  rw[List.append_assoc]
  exact hr
 ·rw[<-hval,jd,cG,ij hx,jb]
  have hm:=sQ (l:=a) (i:=i+1)
  rw[hy,hd]at hm
  have h:=Cc (x:=x) hm
  have e:ai=4294967296:=rfl
  rw[<-e]at h
  rw[h,<-hz,Nat.pow_succ,Nat.mul_assoc,Nat.mul_add]
  omega
theorem oJ (w:World) (v:Value) (n:Nat) (h:aV .u32 ai w v n) {j:Nat} (hj:Bd j n) (cQ:j<=1000000000):Calls Tryz.prog 130 #[v] w (kZ w (n/2)):=by
 obtain⟨A,c,rfl,ha⟩:=h
 have hl:=mZ hj
 have qR:=aR aj n
 have wa:=bf aj n
 clear hj
 generalize ae ai n=a at *
 have hla:a.length<=100000000:=by omega
 clear hl
 have VA:=bx qR
 clear qR
 go_enter Tryz.func130,Tryz.ntmps130
 go_wp2_with (at_make; refine bO _ rfl _ _ _ rfl .u32 146 Tryz.underlying59 jn _ _ rfl rfl (by omega) (by omega) (by omega) ?_; intro w1 hrow bL hsz)
 rw[Int.toNat_natCast]at hrow
 go_loopw [4] (λs4 wr=>∃(i:Nat) (o:List Nat),i<=a.length/\s4=.int .i64 i/\o.length=i/\Wf ai o/\Row wr .u32 146 w.heap.size (o++List.replicate (a.length-i) 0)/\Below w.heap.size w wr/\val ai o+ai^i*(val ai (a.drop i)/2)=n/2)
  (λs4 _=>a.length-(intOf s4).toNat)
 case atStart=>exact⟨0,[],by omega,rfl,rfl,Wf.nil _,by simpa using hrow,bL,by simp[val]; rw[VA.out]⟩
 case round=>
  obtain⟨i,o,hi,rfl,cG,dw,hr,hbl,hval⟩:=hrel
  have bR:=bx hval
  have cD:=bx cG
  clear hval cG hrow bL hsz
  by_cases hlt:i<a.length
  ·obtain⟨gx,ox,x,rfl,tB,gI⟩:=(ha.below hbl).get hlt
   obtain⟨vo,AW,Dh⟩:=hr.get (i:=i) (by have:=cD.out; simp; omega)
   have sw:=hr.frozen i
   have PZ:(0:Int)<=(i:Int):=by omega
   have P0:(i:Int)<(a.length:Int):=by omega
   have hx1:=dm (wa _ (List.mem_of_getElem? gI.out))
   obtain⟨b2,o2,e2,RO⟩:=ha.at_ hlt
   injection e2 with e2
   injection e2 with e1 e2
   subst e1 e2
   have hgx:=World.block_lt_of_cell? w _ RO
   have hne:gx≠w.heap.size:=by
    have:gx<w.heap.size:=hgx
    omega
   clear RO hgx
   have hx2:(0:Int)<=(x:Int)/2:=by omega
   have R1:∀z:Nat,Row (wr.setCell ⟨w.heap.size,i,none⟩ (.int .u32 (z:Int))) .u32 146 w.heap.size ((o++List.replicate (a.length-i) 0).set i z):=λz=>hr.set i z
   have Ox:=bx R1
   have Oi:Bx (∀u,Below w.heap.size w (wr.setCell ⟨w.heap.size,i,none⟩ u)):=bx (λu=>hbl.setCell (Nat.le_refl w.heap.size) u)
   clear R1
   by_cases hn:i+1<a.length
   ·obtain⟨gy,oy,y,e1,D7,oU⟩:=(ha.below hbl).get hn
    injection e1 with e1
    injection e1 with e1 e2
    subst e1 e2
    have TF:(wr.setCell ⟨w.heap.size,i,none⟩ (.int .u32 ((x:Int)/2))).cell? ⟨gx,ox+(i+1),none⟩=some (.int .u32 (y:Int)):=by
     rw[World.cell?_of_block (Below.heap_setCell wr ⟨w.heap.size,i,none⟩ _ gx hne)]; exact D7
    rcases Nat.mod_two_eq_zero_or_one y with hy|hy
    ·have hy0:((y:Int)%2==1)=false:=beq_eq_false_iff_ne.2 (by omega)
     have HY:=bx hy
     clear hy
     go_wp2
     go_roundw
     case rel=>
      obtain⟨o',r⟩:=mj (z:=x/2) cD.out hlt dw wa gI.out (by rw[List.getD_eq_getElem?_getD,oU.out]; rfl) HY.out (by omega) (Ox.out (x/2)) (Oi.out _) bR.out
      exact⟨i+1,o',by omega,by go_num,r⟩
     case measure=>simp[intOf]; omega
    ·have hy0:((y:Int)%2==1)=true:=beq_iff_eq.2 (by omega)
     have HY:=bx hy
     clear hy
     go_wp2
     go_roundw
     case rel=>
      have hR:=(Ox.out (x/2)).set i (x/2+2147483648)
      rw[List.set_set]at hR
      obtain⟨o',r⟩:=mj (z:=x/2+2147483648) cD.out hlt dw wa gI.out (by rw[List.getD_eq_getElem?_getD,oU.out]; rfl) HY.out (by omega) hR ((Oi.out _).setCell (Nat.le_refl _) _) bR.out
      exact⟨i+1,o',by omega,by go_num,r⟩
     case measure=>simp[intOf]; omega
   ·go_wp2
    go_roundw
    case rel=>
     obtain⟨o',r⟩:=mj (z:=x/2) (y:=0) cD.out hlt dw wa gI.out (by rw[List.getD_eq_getElem?_getD,List.getElem?_eq_none (by omega)]; rfl) rfl (by omega) (Ox.out (x/2)) (Oi.out _) bR.out
     exact⟨i+1,o',by omega,by go_num,r⟩
    case measure=>simp[intOf]; omega
  ·obtain rfl:i=a.length:=by omega
   have HF:=bx (show val ai o=n/2 by have:=bR.out; rw[List.drop_of_length_le (Nat.le_refl _)]at this; simpa [val] using this)
   rw[Nat.sub_self,List.replicate_zero,List.append_nil]at hr
   have hrd:=hr.dI (c:=a.length) (by have:=cD.out; omega) (by unfold maxLen; omega)
   go_wp2_with fail
   refine(od _ _ _ o (n/2) hrd dw _ cD.out HF.out).mono ?_
   rintro e w' ⟨rfl,kn,rfl,hv⟩
   go_wp2
   go_ret
   exact⟨_,_,_,Nat.le_refl _,rfl,hv,hbl⟩
end Wx

namespace Wx
set_option maxRecDepth 100000
set_option maxHeartbeats 1000000
open Go Go.RowKit Go.Proofs
@[irreducible] def bdQ (r x d : Nat) : Nat := (r * 4294967296 + x) / d
@[irreducible] def bdR (r x d : Nat) : Nat := (r * 4294967296 + x) % d
variable {r x d:Nat}
theorem Aw (hd:0<d) (hr:r<d) (hx:x<ai):bdQ r x d*d+bdR r x d=r*ai+x/\bdR r x d<d/\bdQ r x d<ai:=by
 unfold bdQ bdR ai
 unfold ai at hx
 refine⟨by rw[Nat.mul_comm]; exact Nat.div_add_mod _ _,Nat.mod_lt _ hd,?_⟩
 rw[Nat.div_lt_iff_lt_mul hd]
 have:=Nat.mul_le_mul_right 4294967296 (Nat.succ_le_of_lt hr)
 rw[Nat.succ_mul,Nat.mul_comm d]at this
 omega
theorem JC (hd:0<d) (hr:r<d) (hx:x<ai):
  ((r:Int)*4294967296+(x:Int))/(d:Int)%4294967296=((bdQ r x d:Nat):Int)/\((r:Int)*4294967296+(x:Int))%(d:Int)=((bdR r x d:Nat):Int):=by
 obtain⟨_,h2,h3⟩:=Aw hd hr hx
 have e:(r:Int)*4294967296+(x:Int)=((r*4294967296+x:Nat):Int):=by omega
 unfold bdQ bdR at *
 rw[e,<-Int.natCast_ediv,<-Int.natCast_emod]
 unfold ai at h3
 generalize (r*4294967296+x)/d=q at *
 omega
def Dw (w:World) (q r:Nat) (e:Ending) (w':World):Prop:=∃v,e=.returned (.tuple #[v,.int .u32 (r:Int)])/\aV .u32 ai w' v q/\Below w.heap.size w w'
theorem wj (w:World) (v1:Value) (m d:Nat) (h1:aV .u32 ai w v1 m) {j:Nat} (hj:Bd j m) (cQ:j<=1000000000) (hd:0<d) (sx:d<ai):
  Calls Tryz.prog 119 #[v1,.int .u32 (d:Int)] w (Dw w (m/d) (m%d)):=by
 obtain⟨A,c,rfl,ha⟩:=h1
 have hl:=mZ hj
 have qR:=aR aj m
 have wa:=bf aj m
 clear hj
 generalize ae ai m=a at *
 have hla:a.length<=100000000:=by omega
 clear hl
 have VA:=Lib.hid qR
 have sU:=Lib.hid sx
 have Ke:=dm sx
 have hd0:(0:Int)<(d:Int):=by omega
 clear qR sx
 go_enter Tryz.func119,Tryz.ntmps119
 go_wp2_with (at_make; refine bO _ rfl _ _ _ rfl .u32 146 Tryz.underlying59 jn _ _ rfl rfl (by omega) (by omega) (by omega) ?_; intro w1 hrow bL hsz)
 rw[Int.toNat_natCast]at hrow
 go_loopw [7,8] (λs7 s8 wr=>∃(i rest:Nat) (o:List Nat),i<=a.length/\s8=.int .i64 ((i:Int)-1)/\s7=.int .u64 (rest:Int)/\Bx (rest<d)/\Bx (o.length=a.length)/\Wf ai o/\Row wr .u32 146 w.heap.size o/\Below w.heap.size w wr/\Bx (val ai (a.drop i)=val ai (o.drop i)*d+rest))
  (λ_ s8 _=>(intOf s8+1).toNat)
 case atStart=>exact⟨a.length,0,List.replicate a.length 0,by omega,rfl,rfl,bx hd,bx (by simp),Wf.replicate (by unfold ai; omega) _,hrow,bL,bx (by rw[List.drop_of_length_le (by omega),List.drop_of_length_le (by simp)]; simp[val])⟩
 case round=>
  obtain⟨i,rest,o,hi,rfl,rfl,Gb,cD,dw,hr,hbl,bR⟩:=hrel
  clear hrow bL hsz
  rcases Nat.eq_zero_or_pos i with rfl|hpos
  ·rw[show(((0:Nat):Int)-1) = -1 by omega]
   have h:=bR.out
   rw[List.drop_zero,List.drop_zero,VA.out]at h
   obtain⟨e1,e2⟩:=ji h Gb.out
   have HF:=Lib.hid e1.symm
   have HG:=Lib.hid e2.symm
   clear h e1 e2
   have hrd:=hr.dI (c:=a.length) (by have:=cD.out; omega) (by unfold maxLen; omega)
   have hr1:(rest:Int)<=4294967295:=by have:=Gb.out; omega
   go_wp2_with fail
   refine(nj _ _ _ o (m/d) hrd dw _ cD.out HF.out).mono ?_
   rintro e w' ⟨rfl,v,rfl,hv⟩
   go_wp2
   rw[HG.out]
   go_ret2
   exact⟨_,rfl,hv,hbl⟩
  ·obtain⟨k,rfl⟩:∃k,i=k+1:=⟨i-1,by omega⟩
   rw[show(((k+1:Nat):Int)-1)=(k:Int) by omega]
   obtain⟨gx,ox,vx,rfl,tB,gI⟩:=(ha.below hbl).get (i:=k) (by omega)
   obtain⟨vo,AW,Dh⟩:=hr.get (i:=k) (by have:=cD.out; omega)
   have sw:=hr.frozen k
   have FT:Bx (vx<ai):=bx (wa _ (List.mem_of_getElem? gI.out))
   have mV:=dm FT.out
   have yx:(0:Int)<=(k:Int):=by omega
   have lQ:(k:Int)<(a.length:Int):=by omega
   have hrx:(rest:Int)<=4294967294:=by have:=Gb.out; omega
   obtain⟨q1,q2⟩:=JC hd Gb.out FT.out
   have Q1:=bx q1
   have Q2:=bx q2
   have HS:=bx (Aw hd Gb.out FT.out)
   clear q1 q2
   go_wp2_with fail
   rw[Q1.out,Q2.out]
   go_roundw
   case rel=>
    refine⟨k,_,o.set k (bdQ rest vx d),by omega,rfl,rfl,bx HS.out.2.1,bx (by rw[List.length_set]; exact cD.out),dw.set HS.out.2.2,hr.set _ _,hbl.setCell (Nat.le_refl _) _,bx ?_⟩
    rw[ik (by have:=cD.out; omega),ij gI.out,jb,jb]
    exact oB bR.out HS.out.1
   case measure=>simp[intOf]
end Wx
