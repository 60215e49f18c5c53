import Derived.Test.YtpiniclogfefjaaJSylvester9
import Derived.Test.YtpiniclogfefjaaJSylvester10
namespace Wx
set_option maxRecDepth 100000
open Go Go.RowKit Go.Proofs

def RetTwo (w:World) (q r:Nat) (e:Ending) (w':World):Prop:=∃v1 v2,e=.returned (.tuple #[v1,v2])∧Num .u64 Qb w' v1 q∧Num .u64 Qb w' v2 r∧Below w.heap.size w w'

set_option maxHeartbeats 1000000 in
theorem divide_less (w:World) (v1 v2:Value) (m n:Nat) (h1:Num .u64 Qb w v1 m) (h2:Num .u64 Qb w v2 n) (hlt:m<n):
  Calls Try.prog 64 #[v1,v2] w (RetTwo w (m/n) (m%n)):=by
 rw[Nat.div_eq_of_lt hlt,Nat.mod_eq_of_lt hlt]
 go_enter Try.func64,Try.ntmps64
 go_wp2_with fail
 refine(Wp _ _ _ _ _ h1 h2).mono ?_
 rintro e w1 ⟨rfl,hb1⟩
 rw[show Yv m n = -1 by unfold Yv; rw[if_pos hlt]]
 have hn1:=h1.below hb1
 go_wp2
 go_ret2
 exact⟨_,_,rfl,Num.zero _ _ _,hn1,hb1⟩

theorem cmpI_ge {m n:Nat} (h:n≤m):∃z,Yv m n=z∧¬(z<0):=⟨_,rfl,by unfold Yv; rw[if_neg (by omega)]; split<;>omega⟩

set_option maxHeartbeats 1000000 in
theorem divide_word (w:World) (v1 v2:Value) (m n:Nat) (h1:Num .u64 Qb w v1 m) (h2:Num .u64 Qb w v2 n) (hle:n≤m) (h0:0<n) (hn:n<Qb) {j:Nat} (hj:Bd j m) (hj1:j≤1000000000):
  Calls Try.prog 64 #[v1,v2] w (RetTwo w (m/n) (m%n)):=by
 obtain⟨z,hz,hz0⟩:=cmpI_ge hle
 have HZ:=bx hz
 have hr:m%n<Qb:=Nat.lt_trans (Nat.mod_lt m h0) hn
 have HR:=bx hr
 have HN:=bx hn
 clear hz hr hn
 have hc:=Wp w v1 v2 m n h1 h2
 rw[HZ.out]at hc
 obtain⟨b,o,c,rfl,hcell⟩:=h2.one h0 HN.out
 go_enter Try.func64,Try.ntmps64
 go_wp2_with fail
 refine hc.mono ?_
 rintro e w1 ⟨rfl,hb1⟩
 have hn1:=h1.below hb1
 have hcell1:w1.cell? ⟨b,o,none⟩=some (.int .u64 (n:Int)):=by rw[hb1.cell (World.block_lt_of_cell? w _ hcell)]; exact hcell
 clear hc hcell
 go_wp2_with fail
 refine(byWord_num w1 v1 m n hn1 hj hj1 h0 HN.out).mono ?_
 rintro e w2 ⟨vq,rfl,hq,hb2⟩
 go_wp2_with fail
 refine(Ki w2 (m%n) HR.out).mono ?_
 rintro e w3 ⟨vr,rfl,hr3,hb3⟩
 go_wp2
 go_ret2
 exact⟨_,_,rfl,hq.below hb3,hr3,(hb1.trans (hb2.mono hb1.size)).trans (hb3.mono (Nat.le_trans hb1.size hb2.size))⟩

theorem long_end {m n T V Q:Nat} (hT:0<T) (h:V+Q*Qb^0*(n*T)=m*T) (hlt:V<n*T):Q=m/n∧V/T=m%n∧V≤m*T:=by
 rw[Nat.pow_zero,Nat.mul_one]at h
 obtain⟨h1,h2⟩:=div_unique (m:=m*T) (d:=n*T) (q:=Q) (r:=V) (by omega) hlt
 rw[Nat.mul_div_mul_right _ _ hT]at h1
 rw[Nat.mul_mod_mul_right]at h2
 exact⟨h1.symm,by rw[← h2,Nat.mul_div_cancel _ hT],by omega⟩
theorem Row.grown {w w':World} {k:IntKind} {e:TypeId} {g g':Nat} {l:List Nat} (h:Row w k e g l) (hg:w.grownBy w' (some g')) (hne:g'≠g):Row w' k e g l:=by
 obtain⟨rest,h1⟩:=h
 exact⟨rest,by rw[← h1]; exact hg.block g (Row.lt ⟨rest,h1⟩) (by simp; omega)⟩
theorem Uq {n:Nat} (h:Qb≤n):2≤(digs Qb n).length:=by
 rcases Nat.lt_or_ge (digs Qb n).length 2 with hl|hl
 ·have:=Qcl Qv n
  have:Qb^(digs Qb n).length≤Qb^1:=Nat.pow_le_pow_right (by unfold Qb; omega) (by omega)
  rw[Nat.pow_one]at this
  omega
 ·exact hl
theorem Qe5 {m n:Nat} (h:n≤m):(digs Qb n).length≤(digs Qb m).length:=by
 rcases Nat.lt_or_ge (digs Qb m).length (digs Qb n).length with hl|hl
 ·have:=Wm Qv hl; omega
 ·exact hl

set_option maxHeartbeats 1000000 in
theorem divide_long (w:World) (v1 v2:Value) (m n:Nat) (h1:Num .u64 Qb w v1 m) (h2:Num .u64 Qb w v2 n) (hle:n≤m) (hn:Qb≤n) {j:Nat} (hj:Bd j m) (hj1:j≤100000000):
  Calls Try.prog 64 #[v1,v2] w (RetTwo w (m/n) (m%n)):=by
 obtain⟨z,hz,hz0⟩:=cmpI_ge hle
 have hc:=Wp w v1 v2 m n h1 h2
 rw[hz]at hc
 clear hz
 have hn2:=Uq hn
 have htopn:=Qc1 Qv n
 have hwn:=Jk Qv n
 obtain⟨B,d,rfl,hb⟩:=id h2
 obtain⟨bb,ob,tb,rfl,hcb,HTB⟩:=hb.get (i:=(digs Qb n).length-1) (by omega)
 have htb:0<tb:=by
  rcases Nat.eq_zero_or_pos tb with rfl|h
  ·exfalso; apply htopn
   rw[List.getLast?_eq_getElem?]; exact HTB.out
  ·exact h
 have htb1:tb<Qb:=hwn _ (List.mem_of_getElem? HTB.out)
 obtain⟨s,hs,hs1⟩:∃s,s=64-Lib.bitLen tb∧s≤64:=⟨_,rfl,by omega⟩
 have hbl:=hb.len
 have HS:=bx hs
 have HTP:=bx (And.intro htb htb1)
 have hNe:(((digs Qb n).length:Int)==1)=false:=beq_eq_false_iff_ne.2 (by omega)
 have hN0:(0:Int)≤((digs Qb n).length:Int)-1:=by omega
 have hjs:Bd (j+65) (m*2^s):=(hj.mul (show Bd 65 (2^s)from Nat.pow_lt_pow_right (by omega) (by omega)))
 have hjn:Bd j n:=hj.le hle
 have hmn:n*2^s≤m*2^s:=Nat.mul_le_mul_right _ hle
 have hnV:Qb≤n*2^s:=Nat.le_trans hn (Nat.le_mul_of_pos_right n (Nat.two_pow_pos s))
 have HH:=bx (And.intro hmn hnV)
 have HJ:=bx (And.intro hj (And.intro hjn hjs))
 clear hs htb htb1 hj hjn hjs hmn hnV htopn hn hwn
 generalize hN:(digs Qb n).length=N at *
 clear hN
 go_enter Try.func64,Try.ntmps64
 go_wp2_with fail
 refine hc.mono ?_
 rintro e w1 ⟨rfl,hb1⟩
 have h11:=h1.below hb1
 have h21:=h2.below hb1
 have hcb1:w1.cell? ⟨bb,ob+(N-1),none⟩=some (.int .u64 (tb:Int)):=by rw[hb1.cell (World.block_lt_of_cell? w _ hcb)]; exact hcb
 clear hc hcb h1 h2 hb
 go_wp2_with fail
 refine(lz64 tb HTP.out.1 HTP.out.2 w1).mono ?_
 rintro e w' ⟨rfl,rfl⟩
 rw[← HS.out]
 go_wp2_with fail
 refine(W6 w1 _ n s h21 HJ.out.2.1 (by omega) (by omega)).mono ?_
 rintro e w2 ⟨v,rfl,hv2,hb2⟩
 have h12:=h11.below hb2
 have hb12:=hb1.trans (hb2.mono hb1.size)
 clear h11 h21 hcb1 hb1 hb2
 go_wp2_with fail
 have hal:=(Below.refl w2.heap.size w2).alloc (Nat.le_refl _) (.cells #[] 81)
 refine(W6 _ _ m s (h12.below hal) HJ.out.1 (by omega) (by omega)).mono ?_
 rintro e w3 ⟨x,rfl,hx3,hb3⟩
 have hown0:(w2.alloc (.cells #[] 81)).ownsRow w2.heap.size 81 1 (.slice (some ⟨w2.heap.size,0,none⟩) 0 0) 0 (Jf .u64 []):=World.ownsRow_made w2 #[] 0 (Nat.le_refl _) (Nat.zero_le _) rfl
 have hown3:=hown0.kept (Jb hb3 none) (.inr (by simp[Value.ownBlock]))
 have hb23:Below w2.heap.size w2 w3:=hal.trans (hb3.mono hal.size)
 have hv3:=hv2.below hb23
 have h13:=h12.below hb23
 clear hown0 hal hb3 h12
 obtain⟨X,cx,rfl,hxr⟩:=hx3
 have hxl:(digs Qb (m*2^s)).length≤100000000:=by
  have:=len64 HJ.out.2.2; omega
 have hxl2:=Qe5 HH.out.1
 have hvl2:=Uq HH.out.2
 obtain⟨V,cv,rfl,hvr⟩:=hv2
 clear hv3
 have hvB:=(RdB.of hvr).grown' (Jb hb23 none) (by intro g hg; cases hg)
 clear hvr
 have hVv:=bx (Zi Qv (n*2^s))
 have hVw:=Jk Qv (n*2^s)
 have hVt:=bx (Qc1 Qv (n*2^s))
 have hXv:=bx (Zi Qv (m*2^s))
 have hXw:=Jk Qv (m*2^s)
 generalize digs Qb (n*2^s)=vl at *
 generalize digs Qb (m*2^s)=al at *
 obtain⟨bxx,ox,x0,rfl,hcx,_⟩:=hxr.get (i:=0) (by omega)
 clear hcx
 go_upto_region 9 with(first
  |(at_builtin; refine wpList_app _ rfl (.tmp 45) (.tmp 48) _ rfl .u64 81 w2.heap.size Try.underlying30 Vu (.slice (some ⟨w2.heap.size,0,none⟩) 0 0) [] rfl hown3 _ _ _ al _ rfl rfl hxr (by simp; omega) hb23.size ?_; intro U4 A4 c4 w4 HU4 hown4 hg4)
  |(at_builtin; refine wpList_app _ rfl (.tmp 49) (.tmp 50) _ rfl .u64 81 w2.heap.size Try.underlying30 Vu (.slice A4 U4.length c4) U4 rfl (hown4.alloc _) _ _ _ [0] 1 rfl rfl ((Row.new w4 .u64 81 [0]).rd_all (c:=1) (by simp) (by simp[maxLen])) (by rw[HU4.out]; simp; omega) (by simp; have h5:=hb23.size; have h6:=hg4.size; omega) ?_; intro U A5 c5 w5 HU5 hown5 hg5))
 have hUl:U.length=al.length+1:=by rw[HU5.out,HU4.out]; simp
 have hvB4:=hvB.grown' hg4 (by intro g hg; simp[Value.ownBlock]at hg; omega)
 have hrow5:∀k,(Value.slice A4 U4.length c4).ownBlock=some k→w2.heap.size≤k:=fun k hk=>(hown4.lt k hk).1
 have hvB5:=(hvB4.grown' (World.grownBy_alloc w4 _ none) (by intro g hg; cases hg)).grown' hg5 hrow5
 have hB4:Below w.heap.size w w4:=(hb12.trans (hb23.mono hb12.size)).grown hg4 (Nat.le_trans hb12.size hb23.size) (by intro g hg; simp[Value.ownBlock]at hg; have:=hb12.size; omega)
 have hB5:Below w.heap.size w w5:=(hB4.alloc hB4.size (.cells #[.int .u64 0] 81)).grown hg5 (by have:=hB4.size; simp; omega) (by intro g hg; have:=hrow5 g hg; have:=hb12.size; omega)
 obtain⟨g,rfl,hgB,hRU,hcu,hUm⟩:=row_of_owns hown5 (by omega)
 clear hvB hvB4 hrow5 hB4 hg4 hg5 hown3 hown4 hown5 h13 hxr
 have hVal:Bx (Ql Qb U+Ql Qb (List.drop (U.length-vl.length) (List.replicate (U.length-vl.length) 0))*Qb^(U.length-vl.length)*(n*2^s)=m*2^s):=by
  refine bx ?_
  rw[List.drop_of_length_le (by simp),val_nil,Nat.zero_mul,Nat.zero_mul,Nat.add_zero,HU5.out,HU4.out,List.nil_append,U2,hXv.out]
  simp[Ql]
 have hLow:Bx (Ql Qb (U.drop (U.length-vl.length))<n*2^s):=by
  refine bx ?_
  have e1:U.drop (U.length-vl.length)=(al.drop (U.length-vl.length))++[0]:=by
   rw[HU5.out,HU4.out,List.nil_append,List.drop_append_of_le_length (by simp; omega)]
  rw[e1,U2]
  have h1:=V3 (hXw.drop (U.length-vl.length))
  have h2:=Qco Qv (n:=n*2^s) (by have:=HH.out.2; unfold Qb at this; omega)
  have h3:(digs Qb (n*2^s)).length=vl.length:=by rw[← hVv.out,Qc2 Qv hVw hVt.out]
  rw[h3]at h2
  rw[List.length_drop,show al.length-(U.length-vl.length)=vl.length-1 by omega]at h1
  simp[Ql]
  omega
 have hUw:Wf Qb U:=by rw[HU5.out,HU4.out]; exact(Wf.append (Wf.nil _) hXw).append (Wf.cons (by unfold Qb; omega) (Wf.nil _))
 have hUl1:vl.length+1≤U.length:=by omega
 have hUl2:U.length≤100000001:=by omega
 clear HU4 HU5 hUl hXw hXv hxl hxl2
 go_wp2_with (at_make; go_loud (refine Wd _ rfl _ _ _ rfl .u64 81 Try.underlying30 Vu _ _ rfl rfl (by omega) (by omega) (by omega) ?_); intro w6 hrow hbel hsz)
 rw[show((U.length:Int)-(vl.length:Int)).toNat=U.length-vl.length by omega]at hrow
 rw[show decide (z<0)=false from decide_eq_false (by omega)]
 have hRU6:=hRU.keep hbel
 have hvB6:=hvB5.grown' (Jb hbel none) (by intro g hg; cases hg)
 have hB6:=hB5.trans (hbel.mono hB5.size)
 have hgq:g≠w5.heap.size:=by have:=hRU.lt; omega
 generalize hQn:U.length-vl.length=Qn at *
 have HQN:=bx hQn
 have hq1:(Qn:Int)≤100000001:=by omega
 have hcc:c5≤9223372036854775807:=by unfold maxLen at hUm; omega
 have HGQ:=bx hgq
 have HSZ:=bx (And.intro hB5.size (show w2.heap.size≤w5.heap.size by have:=hRU.lt; omega))
 have HSZ2:=bx (show w.heap.size≤g by have:=hb12.size; omega)
 clear hRU hvB5 hB5 hbel hsz hQn hz0 hgq HTB hNe hN0 hbl hn2 hb12 hb23
 go_loopw [13] (fun s13 wr=>∃(i:Nat) (M qs:List Nat),i≤Qn∧s13=.int .i64 ((i:Int)-1)∧Bx (M.length=U.length)∧Wf Qb M∧Bx (qs.length=Qn)∧Wf Qb qs∧Row wr .u64 81 g M∧Row wr .u64 81 w5.heap.size qs∧RdB wr w2.heap.size .u64 V cv vl∧Below w.heap.size w wr ∧
   Bx (Ql Qb M+Ql Qb (qs.drop i)*Qb^i*(n*2^s)=m*2^s)∧Bx (Ql Qb (M.drop i)<n*2^s)) (fun s13 _=>(intOf s13+1).toNat)
 case atStart=>exact⟨Qn,U,List.replicate Qn 0,Nat.le_refl _,rfl,bx rfl,hUw,bx (by simp),Wf.replicate (by unfold Qb; omega) _,hRU6,hrow,hvB6,hB6,hVal,hLow⟩
 case round=>
  clear hRU6 hrow hvB6 hB6 hVal hLow
  obtain⟨i,M,qs,hi,rfl,HML,hwM,HQL,hwq,hrM,hrq,hvr,hBr,HVAL,HLOW⟩:=hrel
  rcases Nat.eq_zero_or_pos i with rfl|hpos
  ·rw[show(((0:Nat):Int)-1) = -1 by omega]
   go_wp2_with fail
   obtain⟨e1,e2,e3⟩:=long_end (Nat.two_pow_pos s) HVAL.out HLOW.out
   have E1:=bx e1
   have E2:=bx e2
   have E3:=bx (HJ.out.2.2.le e3)
   clear e1 e2 e3 hcc hq1
   refine(Vk wr (some ⟨w5.heap.size,0,none⟩) Qn qs (m/n) (hrq.rd_all (by rw[HQL.out]; exact Nat.le_refl _) (by have:=HQN.out; unfold maxLen; omega)) hwq Qn HQL.out E1.out).mono ?_
   rintro e w' ⟨rfl,vq,rfl,hnq⟩
   go_wp2_with fail
   refine(Vk wr (some ⟨g,0,none⟩) c5 M _ (hrM.rd_all (by rw[HML.out]; exact hcu) hUm) hwM U.length HML.out rfl).mono ?_
   rintro e w' ⟨rfl,vM,rfl,hnM⟩
   go_wp2_with fail
   refine(right_num wr vM (Ql Qb M) s hnM E3.out (by omega) (by omega)).mono ?_
   rintro e wf ⟨vr,rfl,hnr,hbf⟩
   go_wp2
   go_ret2
   rw[E2.out]at hnr
   exact⟨_,_,rfl,hnq.below hbf,hnr,hBr.trans (hbf.mono hBr.size)⟩
  ·obtain⟨k,rfl⟩:∃k,i=k+1:=⟨i-1,by omega⟩
   rw[show(((k+1:Nat):Int)-1)=(k:Int) by omega]
   have hk0:(0:Int)≤(k:Int):=by omega
   have hk1:(k:Int)<(Qn:Int):=by omega
   have hk2:(k:Int)+(vl.length:Int)+1≤(c5:Int):=by have:=HQN.out; omega
   go_wp2_with fail
   have hkU:k+(vl.length+1)≤M.length:=by have:=HQN.out; have:=HML.out; omega
   have hltw:=Qeu hkU hwM (V:=n*2^s) HLOW.out
   rw[← hVv.out]at hltw
   have hcc1:vl.length+1≤c5-k:=by omega
   rw[show k+vl.length+1-k=vl.length+1 by omega]
   have hcm1:c5-k≤maxLen:=Nat.le_trans (Nat.sub_le _ _) hUm
   have hvl9:vl.length≤1000000000:=by omega
   refine(digit_num wr w2.heap.size g k (c5-k) M vl V cv hrM hwM hkU hcc1 hcm1 hvr hgB hVw hvl9 hvl2 hVt.out hltw).mono ?_
   clear hltw hcc1
   rintro e wd ⟨rfl,hgd,M',hM'l,hwM',hrM',htk,hdr,hmod⟩
   have hrq':=hrq.grown hgd HGQ.out
   have hvr':=hvr.grown hgd hgB
   have hBr':=hBr.grown hgd hBr.size (by intro g' hg'; injection hg' with hg'; have:=HSZ2.out; omega)
   obtain⟨l1,l2⟩:=long_step hM'l hkU (show n*2^s<Qb^vl.length by rw[← hVv.out]; exact V3 hVw) (by rw[HQL.out]; omega) htk hdr (by rw[← hVv.out]; exact hmod) HLOW.out HVAL.out
   rw[hVv.out]
   have hqlt:Ql Qb (win M k (vl.length+1))/(n*2^s)<Qb:=by
    rw[Nat.div_lt_iff_lt_mul (by have:=HLOW.out; omega),Nat.mul_comm]
    exact Qeu hkU hwM HLOW.out
   have HM'L:=bx (hM'l.trans HML.out)
   generalize hqd:Ql Qb (win M k (vl.length+1))/(n*2^s)=qd at *
   have HL1:=bx l1
   have HL2:=bx l2
   have HQD:=bx hqlt
   clear hcm1 hvl9 l1 l2 hqlt hqd htk hdr hmod hM'l hkU hrM hrq hvr hBr hwM HML hgd HVAL HLOW
   obtain⟨vo,hco,HVO⟩:=hrq'.get (i:=k) (by have:=HQL.out; omega)
   have hcf:=hrq'.frozen k
   go_wp2
   go_roundw
   case rel=>
    exact⟨k,M',qs.set k qd,by omega,by go_num,HM'L,hwM',bx (by rw[List.length_set]; exact HQL.out),hwq.set HQD.out,hrM'.far (by simpa using HGQ.out) _,hrq'.set _ _,hvr'.grown' (grown_set _ _ _ _) (by intro g' hg'; injection hg' with hg'; have:=HSZ.out.2; omega),hBr'.setCell HSZ.out.1 _,HL1,HL2⟩
   case measure=>simp[intOf]

theorem J7 (w:World) (v1 v2:Value) (m n:Nat) (h1:Num .u64 Qb w v1 m) (h2:Num .u64 Qb w v2 n) (h0:0<n) {j:Nat} (hj:Bd j m) (hj1:j≤100000000):
  Calls Try.prog 64 #[v1,v2] w (RetTwo w (m/n) (m%n)):=by
 rcases Nat.lt_or_ge m n with hlt|hge
 ·exact divide_less w v1 v2 m n h1 h2 hlt
 ·rcases Nat.lt_or_ge n Qb with hn|hn
  ·exact divide_word w v1 v2 m n h1 h2 hge h0 hn hj (by omega)
  ·exact divide_long w v1 v2 m n h1 h2 hge hn hj hj1
end Wx

namespace Wx
open Go Go.RowKit Go.Proofs

theorem Rd.inj {w:World} {k:IntKind} {A:Option Addr} {c c':Nat} {l r:List Nat} (h:Rd w k A c l) (g:Rd w k A c' r) (hl:l.length=r.length):l=r:=by
 apply List.ext_getElem hl
 intro i h1 h2
 obtain⟨b,o,e,hc⟩:=h.at_ (i:=i) h1
 obtain⟨b',o',e',hc'⟩:=g.at_ (i:=i) h2
 rw[e]at e'
 injection e' with e'
 injection e' with e1 e2
 subst e1 e2
 rw[hc]at hc'
 injection hc' with hc'
 injection hc' with _ hc'
 rw[List.getD_eq_getElem?_getD,List.getD_eq_getElem?_getD,List.getElem?_eq_getElem h1,List.getElem?_eq_getElem h2]at hc'
 simp only[Option.getD_some]at hc'
 omega
theorem Num.inj {w:World} {v:Value} {m n:Nat} {k:IntKind} (h:Num k Qb w v m) (g:Num k Qb w v n):m=n:=by
 obtain⟨A,c,rfl,hr⟩:=h
 obtain⟨A',c',e,gr⟩:=g
 injection e with e1 e2 e3
 subst e1
 exact digs_inj Qv (hr.inj gr e2)
open Classical in
noncomputable def numOf (w:World) (v:Value):Nat:=if h:∃n,Num .u64 Qb w v n then choose h else 0
theorem Num.of_eq {w:World} {v:Value} {n:Nat} (h:Num .u64 Qb w v n):numOf w v=n:=by
 have hx:∃n,Num .u64 Qb w v n:=⟨n,h⟩
 unfold numOf
 rw[dif_pos hx]
 exact(Classical.choose_spec hx).inj h

theorem Qc8 {n:Nat} (h:n<Qb):(digs Qb n).length≤1:=Vm Qv (by simpa using h)
theorem two_le_len {n:Nat} (h:¬n<Qb):2≤(digs Qb n).length:=Uq (by omega)

set_option maxHeartbeats 1000000 in
theorem gcd_num (w:World) (v1 v2:Value) (m n:Nat) (h1:Num .u64 Qb w v1 m) (h2:Num .u64 Qb w v2 n) {j:Nat} (hj:Bd j m) (hk:Bd j n) (hj1:j≤100000000):
  Calls Try.prog 62 #[v1,v2] w (K4 .u64 Qb w (Nat.gcd m n)):=by
 have HX:=bx (And.intro hj hk)
 clear hj hk
 obtain⟨G,hG⟩:∃G,G=Nat.gcd m n:=⟨_,rfl⟩
 rw[← hG]
 have HG:=bx hG
 clear hG
 go_enter Try.func62,Try.ntmps62
 go_wp2_with fail
 go_loopw [0,1] (fun s0 s1 wr=>∃x y:Nat,Num .u64 Qb wr s0 x∧Num .u64 Qb wr s1 y∧Bx (G=Nat.gcd x y)∧Bx (Bd j x∧Bd j y)∧Below w.heap.size w wr) (fun _ s1 wr=>numOf wr s1)
 case atStart=>exact⟨_,_,h1,h2,HG,HX,Below.refl _ _⟩
 case round=>
  clear h1 h2 HG HX
  obtain⟨x,y,hx,hy,HG,HX,hb⟩:=hrel
  rcases Nat.eq_zero_or_pos y with rfl|hy0
  ·obtain⟨A,c,rfl,hr⟩:=id hy
   rw[Ys]at hr ⊢
   go_wp2
   go_ret
   exact⟨_,rfl,by rw[HG.out,Nat.gcd_zero_right]; exact hx,hb⟩
  ·obtain⟨A,c,rfl,hr⟩:=id hx
   obtain⟨B,d,rfl,hs⟩:=id hy
   have hl1:(1:Int)≤((digs Qb y).length:Int):=by have:=(Yb (n:=y) Qv).2 hy0; omega
   by_cases hx1:x<Qb
   ·by_cases hy1:y<Qb
    ·have a1:((digs Qb x).length:Int)≤1:=by have:=Qc8 hx1; omega
     have a2:((digs Qb y).length:Int)≤1:=by have:=Qc8 hy1; omega
     have HX1:=bx hx1
     have HY1:=bx hy1
     have HY0:=bx hy0
     clear hx1 hy1 hy0
     go_wp2_with fail
     refine(small_num wr _ _ x y hx hy HX1.out HY1.out HY0.out).mono ?_
     rintro e w2 ⟨rfl,hb2⟩
     go_wp2_with fail
     refine(Ki w2 _ (Nat.lt_of_le_of_lt (Nat.gcd_le_right x HY0.out) HY1.out)).mono ?_
     rintro e w3 ⟨vr,rfl,hr3,hb3⟩
     go_wp2
     go_ret
     exact⟨_,rfl,by rw[HG.out]; exact hr3,(hb.trans (hb2.mono hb.size)).trans (hb3.mono (Nat.le_trans hb.size hb2.size))⟩
    ·have a1:((digs Qb x).length:Int)≤1:=by have:=Qc8 hx1; omega
     have a2:(2:Int)≤((digs Qb y).length:Int):=by have:=two_le_len hy1; omega
     have HY0:=bx hy0
     clear hx1 hy1 hy0
     go_wp2_with fail
     refine(J7 wr _ _ x y hx hy HY0.out HX.out.1 hj1).mono ?_
     rintro e w2 ⟨vq,vr,rfl,hq,hr2,hb2⟩
     have hy2:=hy.below hb2
     go_wp2
     go_roundw
     case rel=>exact⟨y,x%y,hy2,hr2,bx (by rw[HG.out,Nat.gcd_comm x y,Nat.gcd_rec y x,Nat.gcd_comm]),bx ⟨HX.out.2,HX.out.2.le (Nat.le_of_lt (Nat.mod_lt _ HY0.out))⟩,hb.trans (hb2.mono hb.size)⟩
     case measure=>rw[hr2.of_eq,hy.of_eq]; exact Nat.mod_lt _ HY0.out
   ·have a1:(2:Int)≤((digs Qb x).length:Int):=by have:=two_le_len hx1; omega
    have HY0:=bx hy0
    clear hx1 hy0
    go_wp2_with fail
    refine(J7 wr _ _ x y hx hy HY0.out HX.out.1 hj1).mono ?_
    rintro e w2 ⟨vq,vr,rfl,hq,hr2,hb2⟩
    have hy2:=hy.below hb2
    go_wp2
    go_roundw
    case rel=>exact⟨y,x%y,hy2,hr2,bx (by rw[HG.out,Nat.gcd_comm x y,Nat.gcd_rec y x,Nat.gcd_comm]),bx ⟨HX.out.2,HX.out.2.le (Nat.le_of_lt (Nat.mod_lt _ HY0.out))⟩,hb.trans (hb2.mono hb.size)⟩
    case measure=>rw[hr2.of_eq,hy.of_eq]; exact Nat.mod_lt _ HY0.out
end Wx

namespace Wx
open Go Go.RowKit Go.Proofs

def NoInt (w:World) (g:Nat):Prop:=∀i k z,w.cell? ⟨g,i,none⟩≠some (.int k z)
def Obj3 (w:World) (g:Nat) (x y z:Value) (e:TypeId):Prop:=w.heap[g]?=some (.cells #[x,y,z] e (0,0))
theorem Obj3.c0 {w:World} {g:Nat} {x y z:Value} {e:TypeId} (h:Obj3 w g x y z e):w.cell? ⟨g,0,none⟩=some x:=by unfold Obj3 at h; simp[World.cell?,h]
theorem Obj3.c1 {w:World} {g:Nat} {x y z:Value} {e:TypeId} (h:Obj3 w g x y z e):w.cell? ⟨g,1,none⟩=some y:=by unfold Obj3 at h; simp[World.cell?,h]
theorem Obj3.c2 {w:World} {g:Nat} {x y z:Value} {e:TypeId} (h:Obj3 w g x y z e):w.cell? ⟨g,2,none⟩=some z:=by unfold Obj3 at h; simp[World.cell?,h]
theorem Obj3.fz {w:World} {g:Nat} {x y z:Value} {e:TypeId} (h:Obj3 w g x y z e) (i:Nat):w.frozen? ⟨g,i,none⟩=false:=by unfold Obj3 at h; simp[World.frozen?,h]
theorem Obj3.below {B:Nat} {w w':World} {g:Nat} {x y z:Value} {e:TypeId} (h:Obj3 w g x y z e) (hb:Below B w w') (hg:g<B):Obj3 w' g x y z e:=(hb.block g hg).trans h
theorem Obj3.new (w:World) (x y z:Value) (e:TypeId):Obj3 (w.alloc (.cells #[x,y,z] e)) w.heap.size x y z e:=by unfold Obj3; exact heap_alloc_new _ _
theorem Um (w:World) (o:Obj):w.heap.size<(w.alloc o).heap.size:=by simp
theorem Obj3.noInt {w:World} {g:Nat} {x y z:Value} {e:TypeId} (h:Obj3 w g x y z e) (hx:∀k n,x≠.int k n) (hy:∀k n,y≠.int k n) (hz:∀k n,z≠.int k n):NoInt w g:=by
 intro i k n hc
 unfold Obj3 at h
 simp only[World.cell?,h]at hc
 match i,hc with
 |0,hc=>exact hx k n (by simpa using hc)
 |1,hc=>exact hy k n (by simpa using hc)
 |2,hc=>exact hz k n (by simpa using hc)
 |n+3,hc=>simp at hc
theorem Obj3.set0 {w:World} {g:Nat} {x y z:Value} {e:TypeId} (h:Obj3 w g x y z e) (u:Value):Obj3 (w.setCell ⟨g,0,none⟩ u) g u y z e:=by
 unfold Obj3 at *; simp[World.setCell,Array.getElem?_modify,h]
theorem Obj3.set1 {w:World} {g:Nat} {x y z:Value} {e:TypeId} (h:Obj3 w g x y z e) (u:Value):Obj3 (w.setCell ⟨g,1,none⟩ u) g x u z e:=by
 unfold Obj3 at *; simp[World.setCell,Array.getElem?_modify,h]
theorem Obj3.set2 {w:World} {g:Nat} {x y z:Value} {e:TypeId} (h:Obj3 w g x y z e) (u:Value):Obj3 (w.setCell ⟨g,2,none⟩ u) g x y u e:=by
 unfold Obj3 at *; simp[World.setCell,Array.getElem?_modify,h]
theorem Rd.noInt {w:World} {k:IntKind} {A:Option Addr} {c:Nat} {l:List Nat} (h:Rd w k A c l) {g:Nat} (hg:NoInt w g) (i:Nat) (u:Value):Rd (w.setCell ⟨g,i,none⟩ u) k A c l:=by
 obtain⟨h1,h2,h3⟩:=h
 refine⟨h1,h2,fun hne=>?_⟩
 obtain⟨b,o,e,hc⟩:=h3 hne
 refine⟨b,o,e,fun i' hi=>?_⟩
 have hne':b≠g:=by rintro rfl; exact hg _ _ _ (hc i' hi)
 rw[World.cell?_of_block (Below.heap_setCell w ⟨g,i,none⟩ u b hne')]
 exact hc i' hi
theorem Num.noInt {w:World} {k:IntKind} {v:Value} {n:Nat} (h:Num k Qb w v n) {g:Nat} (hg:NoInt w g) (i:Nat) (u:Value):Num k Qb (w.setCell ⟨g,i,none⟩ u) v n:=by
 obtain⟨A,c,rfl,hr⟩:=h
 exact⟨A,c,rfl,hr.noInt hg i u⟩

def Qm (d:Nat):Nat:=if d=1 then 0 else d
def IsRat (w:World) (v:Value) (q:Rat):Prop:=∃vn vd,v=.agg #[.bool (decide (q.num<0)),vn,vd]∧Num .u64 Qb w vn q.num.natAbs∧Num .u64 Qb w vd (Qm q.den)
def RetRat (w:World) (q:Rat) (e:Ending) (w':World):Prop:=∃v,e=.returned v∧IsRat w' v q∧Below w.heap.size w w'
theorem IsRat.below {w w':World} {v:Value} {q:Rat} (h:IsRat w v q) (hb:Below w.heap.size w w'):IsRat w' v q:=by
 obtain⟨vn,vd,rfl,h1,h2⟩:=h
 exact⟨vn,vd,rfl,h1.below hb,h2.below hb⟩
def BdR (j:Nat) (q:Rat):Prop:=Bd j q.num.natAbs∧Bd j q.den
theorem BdR.mono {j k:Nat} {q:Rat} (h:BdR j q) (hk:j≤k):BdR k q:=⟨h.1.mono hk,h.2.mono hk⟩
def sg (neg:Bool) (n:Nat):Int:=if neg then -(n:Int)else n
theorem Qeg (neg:Bool) (n:Nat):(sg neg n).natAbs=n:=by cases neg<;>simp[sg]
theorem sg_mk (z:Int):sg (decide (z<0)) z.natAbs=z:=by
 unfold sg
 by_cases h:z<0
 ·rw[decide_eq_true h]; simp; omega
 ·rw[decide_eq_false h]; simp; omega
def Yn (neg:Bool) (n d:Nat):Rat:=mkRat (sg neg n) d
theorem redR_num {neg:Bool} {n d:Nat} (hd:0<d):(Yn neg n d).num=sg neg (n/n.gcd d):=by
 unfold Yn
 rw[Rat.num_mkRat,if_neg (by omega),Qeg,Nat.gcd_comm]
 cases neg
 ·simp[sg]
 ·show -(n:Int)/((n.gcd d:Nat):Int) = -((n/n.gcd d:Nat):Int)
  rw[Int.neg_ediv_of_dvd (Int.natCast_dvd_natCast.2 (Nat.gcd_dvd_left n d)),Int.natCast_ediv]
theorem redR_den {neg:Bool} {n d:Nat} (hd:0<d):(Yn neg n d).den=d/n.gcd d:=by
 unfold Yn
 rw[Rat.den_mkRat,if_neg (by omega),Qeg,Nat.gcd_comm]
theorem Qey {neg:Bool} {n d:Nat} (hd:0<d):(Yn neg n d).num.natAbs=n/n.gcd d:=by rw[redR_num hd,Qeg]
theorem K6 {neg:Bool} {n d j:Nat} (hd:0<d) (h1:Bd j n) (h2:Bd j d):BdR j (Yn neg n d):=
 ⟨by rw[Qey hd]; exact h1.le (Nat.div_le_self _ _),by rw[redR_den hd]; exact h2.le (Nat.div_le_self _ _)⟩
theorem redR_neg {neg:Bool} {n d:Nat} (hd:0<d) (hn:0<n):decide ((Yn neg n d).num<0)=neg:=by
 rw[redR_num hd]
 have:0<n/n.gcd d:=Nat.div_pos (Nat.le_of_dvd hn (Nat.gcd_dvd_left n d)) (Nat.gcd_pos_of_pos_left _ hn)
 cases neg<;>simp[sg]<;>omega
theorem redR_zero {neg:Bool} {d:Nat}:Yn neg 0 d=0:=by
 unfold Yn sg
 cases neg<;>simp
theorem Qct {w w3:World} {g:Nat} {x y z:Value} {e:TypeId} {q:Rat} {neg:Bool} {A1 A2:Option Addr} {l1 l2 c1 c2:Nat} (hg:w.heap.size≤g) (hb:Below w.heap.size w w3) (ho:Obj3 w3 g x y z e)
  (hx:∀k n,x≠.int k n) (hy:∀k n,y≠.int k n) (hz:∀k n,z≠.int k n) (hn:decide (q.num<0)=neg) (h1:Num .u64 Qb w3 (.slice A1 l1 c1) q.num.natAbs) (h2:Num .u64 Qb w3 (.slice A2 l2 c2) (Qm q.den)):
  ∃wf,((w3.setCell ⟨g,0,none⟩ (.bool neg)).setCell ⟨g,1,none⟩ (.slice A1 l1 c1)).setCell ⟨g,2,none⟩ (.slice A2 l2 c2)=wf∧wf.cell? ⟨g,0,none⟩=some (.bool neg)∧wf.cell? ⟨g,1,none⟩=some (.slice A1 l1 c1)∧wf.cell? ⟨g,2,none⟩=some (.slice A2 l2 c2) ∧
   RetRat w q (.returned (.agg #[.bool neg,.slice A1 l1 c1,.slice A2 l2 c2])) wf:=by
 have n0:=ho.noInt hx hy hz
 have o1:=ho.set0 (.bool neg)
 have n1:=o1.noInt (by simp) hy hz
 have o2:=o1.set1 (.slice A1 l1 c1)
 have n2:=o2.noInt (by simp) (by simp) hz
 have o3:=o2.set2 (.slice A2 l2 c2)
 refine⟨_,rfl,o3.c0,o3.c1,o3.c2,_,rfl,⟨_,_,by rw[hn],((h1.noInt n0 _ _).noInt n1 _ _).noInt n2 _ _,((h2.noInt n0 _ _).noInt n1 _ _).noInt n2 _ _⟩,((hb.setCell hg _).setCell hg _).setCell hg _⟩
theorem Yl (w:World):IsRat w (.agg #[.bool false,.slice none 0 0,.slice none 0 0]) 0:=⟨_,_,rfl,Num.zero _ _ _,Num.zero _ _ _⟩
theorem Qar:Qm 1=0:=rfl
theorem Qbl {d:Nat} (h:d≠1):Qm d=d:=if_neg h

theorem Wc (w:World) (v:Value) (d:Nat) (h:Num .u64 Qb w v (Qm d)) (hd:0<d):Calls Try.prog 40 #[v] w (K4 .u64 Qb w d):=by
 by_cases h1:d=1
 ·subst h1
  obtain⟨A,c,rfl,hr⟩:=id h
  rw[Qar,Ys]
  go_enter Try.func40,Try.ntmps40
  go_wp2_with fail
  refine(Ki w 1 (by unfold Qb; omega)).mono ?_
  rintro e w3 ⟨vr,rfl,hr3,hb3⟩
  go_wp2
  go_ret
  exact⟨_,rfl,hr3,hb3⟩
 ·rw[Qbl h1]at h
  obtain⟨A,c,rfl,hr⟩:=id h
  have hl:(((digs Qb d).length:Int)==0)=false:=beq_eq_false_iff_ne.2 (by have:=(Yb (n:=d) Qv).2 hd; omega)
  go_enter Try.func40,Try.ntmps40
  go_wp2
  go_ret
  exact⟨_,rfl,h,Below.refl _ _⟩

set_option maxHeartbeats 1000000 in
theorem Jx (w:World) (neg:Bool) (v1 v2:Value) (n d:Nat) (h1:Num .u64 Qb w v1 n) (h2:Num .u64 Qb w v2 d) (hd:0<d) {j:Nat} (hj:Bd j n) (hk:Bd j d) (hj1:j≤100000000):
  Calls Try.prog 38 #[.bool neg,v1,v2] w (RetRat w (Yn neg n d)):=by
 rcases Nat.eq_zero_or_pos n with rfl|hn
 ·obtain⟨A,c,rfl,hr⟩:=id h1
  rw[Ys,redR_zero]
  go_enter Try.func38,Try.ntmps38
  go_wp2
  go_returns
  exact⟨_,rfl,Yl _,Below.alloc (Below.refl _ _) (Nat.le_refl _) _⟩
 ·obtain⟨B,c,rfl,hr⟩:=id h1
  have hl:(((digs Qb n).length:Int)==0)=false:=beq_eq_false_iff_ne.2 (by have:=(Yb (n:=n) Qv).2 hn; omega)
  obtain⟨g,hg⟩:∃g,g=n.gcd d:=⟨_,rfl⟩
  obtain⟨q,hq⟩:∃q,q=Yn neg n d:=⟨_,rfl⟩
  have hg0:0<g:=by rw[hg]; exact Nat.gcd_pos_of_pos_left _ hn
  have q1:=Qey (neg:=neg) (n:=n) hd
  have q2:=redR_den (neg:=neg) (n:=n) hd
  have q3:=redR_neg (neg:=neg) hd hn
  rw[← hq,← hg]at q1 q2
  rw[← hq]at q3
  rw[← hq]
  have HQ:=bx (And.intro q1 (And.intro q2 q3))
  have HJ:=bx (And.intro hj hk)
  have HG:=bx hg
  clear q1 q2 q3 hq hj hk hg hn
  by_cases h1g:g=1
  ·subst h1g
   rw[Nat.div_one,Nat.div_one]at HQ
   by_cases hd1:d=1
   ·have HD1:=bx hd1
    clear hd1
    go_enter Try.func38,Try.ntmps38
    go_wp2_with fail
    have hb0:=Below.alloc (Below.refl w.heap.size w) (Nat.le_refl _) (.cells #[.bool false,.slice none 0 0,.slice none 0 0] 32)
    have ho:=Obj3.new w (.bool false) (.slice none 0 0) (.slice none 0 0) 32
    have hlt:=Um w (.cells #[.bool false,.slice none 0 0,.slice none 0 0] 32)
    generalize w.alloc (.cells #[.bool false,.slice none 0 0,.slice none 0 0] 32)=w0 at *
    refine(gcd_num _ _ _ n d (h1.below hb0) (h2.below hb0) HJ.out.1 HJ.out.2 hj1).mono ?_
    rintro e w1 ⟨vg,rfl,hvg,hb1⟩
    rw[← HG.out]at hvg
    have ho1:=ho.below hb1 hlt
    have hlt1:=Nat.lt_of_lt_of_le hlt hb1.size
    have hb01:=hb0.trans (hb1.mono hb0.size)
    have h11:=h1.below hb01
    have h21:=h2.below hb01
    go_wp2_with fail
    refine(Ue w1 vg hvg).mono ?_
    rintro e w' ⟨rfl,rfl⟩
    go_wp2_with fail
    rw[HD1.out]at h21
    refine(Ue w1 _ h21).mono ?_
    rintro e w' ⟨rfl,rfl⟩
    have HOF:=ho1
    have HBF:=hb01
    obtain⟨wf,HW,f0,f1,f2,hfin⟩:=Qct (q:=q) (neg:=neg) (Nat.le_refl _) HBF HOF (by simp) (by simp) (by simp) HQ.out.2.2 (by rw[HQ.out.1]; exact h11) (A2:=none) (l2:=0) (c2:=0) (by rw[HQ.out.2.1,HD1.out,Qar]; exact Num.zero _ _ _)
    have HW1:=bx HW
    have HF:=bx (And.intro f0 (And.intro f1 f2))
    clear HW f0 f1 f2
    have k0:=HOF.c0
    have k1:=HOF.c1
    have k2:=HOF.c2
    have k3:=HOF.fz 0
    have k4:=HOF.fz 1
    have k5:=HOF.fz 2
    go_wp2
    rw[HW1.out]
    obtain⟨f0,f1,f2⟩:=HF.out
    (try simp only[Exit.inBlock,Exit.then])
    refine bodyPost_ret (by simp[results,Try.results38,go_sem,f0,f1,f2]; try rfl) rfl ?_
    exact hfin
   ·have HD1:=bx hd1
    clear hd1
    go_enter Try.func38,Try.ntmps38
    go_wp2_with fail
    have hb0:=Below.alloc (Below.refl w.heap.size w) (Nat.le_refl _) (.cells #[.bool false,.slice none 0 0,.slice none 0 0] 32)
    have ho:=Obj3.new w (.bool false) (.slice none 0 0) (.slice none 0 0) 32
    have hlt:=Um w (.cells #[.bool false,.slice none 0 0,.slice none 0 0] 32)
    generalize w.alloc (.cells #[.bool false,.slice none 0 0,.slice none 0 0] 32)=w0 at *
    refine(gcd_num _ _ _ n d (h1.below hb0) (h2.below hb0) HJ.out.1 HJ.out.2 hj1).mono ?_
    rintro e w1 ⟨vg,rfl,hvg,hb1⟩
    rw[← HG.out]at hvg
    have ho1:=ho.below hb1 hlt
    have hlt1:=Nat.lt_of_lt_of_le hlt hb1.size
    have hb01:=hb0.trans (hb1.mono hb0.size)
    have h11:=h1.below hb01
    have h21:=h2.below hb01
    go_wp2_with fail
    refine(Ue w1 vg hvg).mono ?_
    rintro e w' ⟨rfl,rfl⟩
    go_wp2_with fail
    refine(V9 w1 _ _ h21 HD1.out).mono ?_
    rintro e w' ⟨rfl,rfl⟩
    have HOF:=ho1
    have HBF:=hb01
    obtain⟨A2,c2,rfl,_⟩:=id h21
    obtain⟨wf,HW,f0,f1,f2,hfin⟩:=Qct (q:=q) (neg:=neg) (Nat.le_refl _) HBF HOF (by simp) (by simp) (by simp) HQ.out.2.2 (by rw[HQ.out.1]; exact h11) (by rw[HQ.out.2.1,Qbl HD1.out]; exact h21)
    have HW1:=bx HW
    have HF:=bx (And.intro f0 (And.intro f1 f2))
    clear HW f0 f1 f2
    have k0:=HOF.c0
    have k1:=HOF.c1
    have k2:=HOF.c2
    have k3:=HOF.fz 0
    have k4:=HOF.fz 1
    have k5:=HOF.fz 2
    go_wp2
    rw[HW1.out]
    obtain⟨f0,f1,f2⟩:=HF.out
    (try simp only[Exit.inBlock,Exit.then])
    refine bodyPost_ret (by simp[results,Try.results38,go_sem,f0,f1,f2]; try rfl) rfl ?_
    exact hfin
  ·by_cases hd1:d/g=1
   ·have HG1:=bx h1g
    have HD1:=bx hd1
    clear h1g hd1
    go_enter Try.func38,Try.ntmps38
    go_wp2_with fail
    have hb0:=Below.alloc (Below.refl w.heap.size w) (Nat.le_refl _) (.cells #[.bool false,.slice none 0 0,.slice none 0 0] 32)
    have ho:=Obj3.new w (.bool false) (.slice none 0 0) (.slice none 0 0) 32
    have hlt:=Um w (.cells #[.bool false,.slice none 0 0,.slice none 0 0] 32)
    generalize w.alloc (.cells #[.bool false,.slice none 0 0,.slice none 0 0] 32)=w0 at *
    refine(gcd_num _ _ _ n d (h1.below hb0) (h2.below hb0) HJ.out.1 HJ.out.2 hj1).mono ?_
    rintro e w1 ⟨vg,rfl,hvg,hb1⟩
    rw[← HG.out]at hvg
    have ho1:=ho.below hb1 hlt
    have hlt1:=Nat.lt_of_lt_of_le hlt hb1.size
    have hb01:=hb0.trans (hb1.mono hb0.size)
    have h11:=h1.below hb01
    have h21:=h2.below hb01
    go_wp2_with fail
    refine(V9 w1 vg g hvg HG1.out).mono ?_
    rintro e w' ⟨rfl,rfl⟩
    go_wp2_with fail
    refine(J7 w1 _ _ n g h11 hvg hg0 HJ.out.1 hj1).mono ?_
    rintro e w2 ⟨vn,vr,rfl,hvn,_,hb2⟩
    have hb02:=hb01.trans (hb2.mono hb01.size)
    have h22:=h2.below hb02
    have hvg2:=hvg.below hb2
    have ho2:=ho1.below hb2 hlt1
    have hlt2:=Nat.lt_of_lt_of_le hlt1 hb2.size
    go_wp2_with fail
    refine(J7 w2 _ _ d g h22 hvg2 hg0 HJ.out.2 hj1).mono ?_
    rintro e w3 ⟨vd,vr',rfl,hvd,_,hb3⟩
    have HBF:=hb02.trans (hb3.mono hb02.size)
    have HOF:=ho2.below hb3 hlt2
    have hvn3:=hvn.below hb3
    go_wp2_with fail
    rw[HD1.out]at hvd
    refine(Ue w3 vd hvd).mono ?_
    rintro e w' ⟨rfl,rfl⟩
    obtain⟨A1,c1,rfl,_⟩:=id hvn3
    obtain⟨wf,HW,f0,f1,f2,hfin⟩:=Qct (q:=q) (neg:=neg) (Nat.le_refl _) HBF HOF (by simp) (by simp) (by simp) HQ.out.2.2 (by rw[HQ.out.1]; exact hvn3) (A2:=none) (l2:=0) (c2:=0) (by rw[HQ.out.2.1,HD1.out,Qar]; exact Num.zero _ _ _)
    have HW1:=bx HW
    have HF:=bx (And.intro f0 (And.intro f1 f2))
    clear HW f0 f1 f2
    have k0:=HOF.c0
    have k1:=HOF.c1
    have k2:=HOF.c2
    have k3:=HOF.fz 0
    have k4:=HOF.fz 1
    have k5:=HOF.fz 2
    go_wp2
    rw[HW1.out]
    obtain⟨f0,f1,f2⟩:=HF.out
    (try simp only[Exit.inBlock,Exit.then])
    refine bodyPost_ret (by simp[results,Try.results38,go_sem,f0,f1,f2]; try rfl) rfl ?_
    exact hfin
   ·have HG1:=bx h1g
    have HD1:=bx hd1
    clear h1g hd1
    go_enter Try.func38,Try.ntmps38
    go_wp2_with fail
    have hb0:=Below.alloc (Below.refl w.heap.size w) (Nat.le_refl _) (.cells #[.bool false,.slice none 0 0,.slice none 0 0] 32)
    have ho:=Obj3.new w (.bool false) (.slice none 0 0) (.slice none 0 0) 32
    have hlt:=Um w (.cells #[.bool false,.slice none 0 0,.slice none 0 0] 32)
    generalize w.alloc (.cells #[.bool false,.slice none 0 0,.slice none 0 0] 32)=w0 at *
    refine(gcd_num _ _ _ n d (h1.below hb0) (h2.below hb0) HJ.out.1 HJ.out.2 hj1).mono ?_
    rintro e w1 ⟨vg,rfl,hvg,hb1⟩
    rw[← HG.out]at hvg
    have ho1:=ho.below hb1 hlt
    have hlt1:=Nat.lt_of_lt_of_le hlt hb1.size
    have hb01:=hb0.trans (hb1.mono hb0.size)
    have h11:=h1.below hb01
    have h21:=h2.below hb01
    go_wp2_with fail
    refine(V9 w1 vg g hvg HG1.out).mono ?_
    rintro e w' ⟨rfl,rfl⟩
    go_wp2_with fail
    refine(J7 w1 _ _ n g h11 hvg hg0 HJ.out.1 hj1).mono ?_
    rintro e w2 ⟨vn,vr,rfl,hvn,_,hb2⟩
    have hb02:=hb01.trans (hb2.mono hb01.size)
    have h22:=h2.below hb02
    have hvg2:=hvg.below hb2
    have ho2:=ho1.below hb2 hlt1
    have hlt2:=Nat.lt_of_lt_of_le hlt1 hb2.size
    go_wp2_with fail
    refine(J7 w2 _ _ d g h22 hvg2 hg0 HJ.out.2 hj1).mono ?_
    rintro e w3 ⟨vd,vr',rfl,hvd,_,hb3⟩
    have HBF:=hb02.trans (hb3.mono hb02.size)
    have HOF:=ho2.below hb3 hlt2
    have hvn3:=hvn.below hb3
    go_wp2_with fail
    refine(V9 w3 vd _ hvd HD1.out).mono ?_
    rintro e w' ⟨rfl,rfl⟩
    obtain⟨A1,c1,rfl,_⟩:=id hvn3
    obtain⟨A2,c2,rfl,_⟩:=id hvd
    obtain⟨wf,HW,f0,f1,f2,hfin⟩:=Qct (q:=q) (neg:=neg) (Nat.le_refl _) HBF HOF (by simp) (by simp) (by simp) HQ.out.2.2 (by rw[HQ.out.1]; exact hvn3) (by rw[HQ.out.2.1,Qbl HD1.out]; exact hvd)
    have HW1:=bx HW
    have HF:=bx (And.intro f0 (And.intro f1 f2))
    clear HW f0 f1 f2
    have k0:=HOF.c0
    have k1:=HOF.c1
    have k2:=HOF.c2
    have k3:=HOF.fz 0
    have k4:=HOF.fz 1
    have k5:=HOF.fz 2
    go_wp2
    rw[HW1.out]
    obtain⟨f0,f1,f2⟩:=HF.out
    (try simp only[Exit.inBlock,Exit.then])
    refine bodyPost_ret (by simp[results,Try.results38,go_sem,f0,f1,f2]; try rfl) rfl ?_
    exact hfin
end Wx
