import Derived.Test.YtpiniclogfefjaaCSylvesterText
namespace Wx
set_option maxRecDepth 100000
open Go Go.RowKit Go.Proofs

def Z7 (q:Rat):List Nat:=(if q.num<0 then[45]else[])++(Ya q.num.natAbs++(if q.den=1 then[]else 47::Ya q.den))
theorem Uj {j n:Nat} (h:Bd j n):(Ya n).length≤j+1:=by
 unfold Ya
 split
 ·simp
 ·have:=decL_of h; unfold decL at this; omega
theorem cat_minus (l:List Nat):(⟨#[45]⟩:ByteArray)++Qu l=Qu (45::l):=Vf [45] l
theorem cat_slash (l:List Nat):(⟨#[47]⟩:ByteArray)++Qu l=Qu (47::l):=Vf [47] l
set_option maxHeartbeats 1000000 in
theorem rtext_00 (w:World) (v:Value) (x:Rat) (hx:IsRat w v x) {j:Nat} (hj:BdR j x) (hj1:j≤100000000) (hn:¬x.num<0) (hd:¬x.den=1):Calls Try.prog 29 #[v] w (Zv w (.string (Qu (Z7 x)))):=by
 obtain⟨vx1,vx2,rfl,hxa,hxb⟩:=id hx
 obtain⟨Ax1,cx1,rfl,_⟩:=id hxa
 obtain⟨Ax2,cx2,rfl,_⟩:=id hxb
 have HB:=bx hj
 have hT:Z7 x=Ya x.num.natAbs++47::Ya x.den:=by unfold Z7; rw[if_neg hn,if_neg hd]; simp
 rw[hT,decide_eq_false hn]at *
 rw[Qbl hd]at *
 have hld:(1:Int)≤((digs Qb x.den).length:Int):=by have:=(Yb (n:=x.den) Qv).2 x.den_pos; omega
 have hl2:=Uj hj.2
 have hz2:=Yc (Ya x.den)
 have hy2:=cat_slash (Ya x.den)
 have hz3:=Yc (47::Ya x.den)
 have hy3:=Vf (Ya x.num.natAbs) (47::Ya x.den)
 have hl1:=Uj hj.1
 have hz1:=Yc (Ya x.num.natAbs)
 have hq2:1+(Ya x.den).length≤9223372036854775807:=by omega
 have hq3:(Ya x.num.natAbs).length+((Ya x.den).length+1)≤9223372036854775807:=by omega
 clear hj hn hd hT hl1 hl2
 go_enter Try.func29,Try.ntmps29
 go_wp2_with fail
 obtain⟨w1,e1,o1,b1,s1⟩:=Yz w (.bool false) (.slice Ax1 (digs Qb x.num.natAbs).length cx1) (.slice Ax2 (digs Qb x.den).length cx2) 32
 rw[e1]
 clear e1
 refine Calls.mono (Qah w1 _ _ (hxa.below b1) HB.out.1 hj1) ?_
 rintro e w2 ⟨rfl,hb2⟩
 have k0:=(o1.gone hb2).c0
 have k1:=(o1.gone hb2).c1
 have k2:=(o1.gone hb2).c2
 have hxb2:=(hxb.below b1).below hb2
 have B2:=b1.trans (hb2.mono b1.size)
 go_wp2_with fail
 refine Calls.mono (Qah w2 _ _ hxb2 HB.out.2 hj1) ?_
 rintro e w3 ⟨rfl,hb3⟩
 go_wp2
 go_ret
 exact⟨rfl,B2.trans (hb3.mono B2.size)⟩

set_option maxHeartbeats 1000000 in
theorem rtext_01 (w:World) (v:Value) (x:Rat) (hx:IsRat w v x) {j:Nat} (hj:BdR j x) (hj1:j≤100000000) (hn:¬x.num<0) (hd:x.den=1):Calls Try.prog 29 #[v] w (Zv w (.string (Qu (Z7 x)))):=by
 obtain⟨vx1,vx2,rfl,hxa,hxb⟩:=id hx
 obtain⟨Ax1,cx1,rfl,_⟩:=id hxa
 obtain⟨Ax2,cx2,rfl,_⟩:=id hxb
 have HB:=bx hj
 have hT:Z7 x=Ya x.num.natAbs:=by unfold Z7; rw[if_neg hn,if_pos hd]; simp
 rw[hT,decide_eq_false hn]at *
 rw[hd,Qar,Ys]at *
 have hl1:=Uj hj.1
 have hz1:=Yc (Ya x.num.natAbs)
 clear hj hn hd hT hl1
 go_enter Try.func29,Try.ntmps29
 go_wp2_with fail
 obtain⟨w1,e1,o1,b1,s1⟩:=Yz w (.bool false) (.slice Ax1 (digs Qb x.num.natAbs).length cx1) (.slice Ax2 0 cx2) 32
 rw[e1]
 clear e1
 refine Calls.mono (Qah w1 _ _ (hxa.below b1) HB.out.1 hj1) ?_
 rintro e w2 ⟨rfl,hb2⟩
 have k0:=(o1.gone hb2).c0
 have k1:=(o1.gone hb2).c1
 have k2:=(o1.gone hb2).c2
 have hxb2:=(hxb.below b1).below hb2
 have B2:=b1.trans (hb2.mono b1.size)
 go_wp2
 go_ret
 exact⟨rfl,B2⟩

set_option maxHeartbeats 1000000 in
theorem rtext_10 (w:World) (v:Value) (x:Rat) (hx:IsRat w v x) {j:Nat} (hj:BdR j x) (hj1:j≤100000000) (hn:x.num<0) (hd:¬x.den=1):Calls Try.prog 29 #[v] w (Zv w (.string (Qu (Z7 x)))):=by
 obtain⟨vx1,vx2,rfl,hxa,hxb⟩:=id hx
 obtain⟨Ax1,cx1,rfl,_⟩:=id hxa
 obtain⟨Ax2,cx2,rfl,_⟩:=id hxb
 have HB:=bx hj
 have hT:Z7 x=45::(Ya x.num.natAbs++47::Ya x.den):=by unfold Z7; rw[if_pos hn,if_neg hd]; simp
 rw[hT,decide_eq_true hn]at *
 rw[Qbl hd]at *
 have hld:(1:Int)≤((digs Qb x.den).length:Int):=by have:=(Yb (n:=x.den) Qv).2 x.den_pos; omega
 have hl2:=Uj hj.2
 have hz2:=Yc (Ya x.den)
 have hy2:=cat_slash (Ya x.den)
 have hz3:=Yc (47::Ya x.den)
 have hy1:=cat_minus (Ya x.num.natAbs)
 have hz4:=Yc (45::Ya x.num.natAbs)
 have hy3:=Vf (45::Ya x.num.natAbs) (47::Ya x.den)
 have hl1:=Uj hj.1
 have hz1:=Yc (Ya x.num.natAbs)
 have hq1:1+(Ya x.num.natAbs).length≤9223372036854775807:=by omega
 have hq2:1+(Ya x.den).length≤9223372036854775807:=by omega
 have hq3:((Ya x.num.natAbs).length+1)+((Ya x.den).length+1)≤9223372036854775807:=by omega
 clear hj hn hd hT hl1 hl2
 go_enter Try.func29,Try.ntmps29
 go_wp2_with fail
 obtain⟨w1,e1,o1,b1,s1⟩:=Yz w (.bool true) (.slice Ax1 (digs Qb x.num.natAbs).length cx1) (.slice Ax2 (digs Qb x.den).length cx2) 32
 rw[e1]
 clear e1
 refine Calls.mono (Qah w1 _ _ (hxa.below b1) HB.out.1 hj1) ?_
 rintro e w2 ⟨rfl,hb2⟩
 have k0:=(o1.gone hb2).c0
 have k1:=(o1.gone hb2).c1
 have k2:=(o1.gone hb2).c2
 have hxb2:=(hxb.below b1).below hb2
 have B2:=b1.trans (hb2.mono b1.size)
 go_wp2_with fail
 refine Calls.mono (Qah w2 _ _ hxb2 HB.out.2 hj1) ?_
 rintro e w3 ⟨rfl,hb3⟩
 go_wp2
 go_ret
 exact⟨rfl,B2.trans (hb3.mono B2.size)⟩

set_option maxHeartbeats 1000000 in
theorem rtext_11 (w:World) (v:Value) (x:Rat) (hx:IsRat w v x) {j:Nat} (hj:BdR j x) (hj1:j≤100000000) (hn:x.num<0) (hd:x.den=1):Calls Try.prog 29 #[v] w (Zv w (.string (Qu (Z7 x)))):=by
 obtain⟨vx1,vx2,rfl,hxa,hxb⟩:=id hx
 obtain⟨Ax1,cx1,rfl,_⟩:=id hxa
 obtain⟨Ax2,cx2,rfl,_⟩:=id hxb
 have HB:=bx hj
 have hT:Z7 x=45::Ya x.num.natAbs:=by unfold Z7; rw[if_pos hn,if_pos hd]; simp
 rw[hT,decide_eq_true hn]at *
 rw[hd,Qar,Ys]at *
 have hy1:=cat_minus (Ya x.num.natAbs)
 have hz4:=Yc (45::Ya x.num.natAbs)
 have hl1:=Uj hj.1
 have hz1:=Yc (Ya x.num.natAbs)
 have hq1:1+(Ya x.num.natAbs).length≤9223372036854775807:=by omega
 clear hj hn hd hT hl1
 go_enter Try.func29,Try.ntmps29
 go_wp2_with fail
 obtain⟨w1,e1,o1,b1,s1⟩:=Yz w (.bool true) (.slice Ax1 (digs Qb x.num.natAbs).length cx1) (.slice Ax2 0 cx2) 32
 rw[e1]
 clear e1
 refine Calls.mono (Qah w1 _ _ (hxa.below b1) HB.out.1 hj1) ?_
 rintro e w2 ⟨rfl,hb2⟩
 have k0:=(o1.gone hb2).c0
 have k1:=(o1.gone hb2).c1
 have k2:=(o1.gone hb2).c2
 have hxb2:=(hxb.below b1).below hb2
 have B2:=b1.trans (hb2.mono b1.size)
 go_wp2
 go_ret
 exact⟨rfl,B2⟩

theorem Qcb (w:World) (v:Value) (x:Rat) (hx:IsRat w v x) {j:Nat} (hj:BdR j x) (hj1:j≤100000000):Calls Try.prog 29 #[v] w (Zv w (.string (Qu (Z7 x)))):=by
 by_cases hn:x.num<0
 ·by_cases hd:x.den=1
  ·exact rtext_11 w v x hx hj hj1 hn hd
  ·exact rtext_10 w v x hx hj hj1 hn hd
 ·by_cases hd:x.den=1
  ·exact rtext_01 w v x hx hj hj1 hn hd
  ·exact rtext_00 w v x hx hj hj1 hn hd
end Wx

namespace Wx
set_option maxRecDepth 100000
open Go Go.RowKit Go.Proofs

def vsize:Value→Nat|.string s=>s.size|_=>0
def Xv (l:List Nat):Nat:=l.foldl (fun a c=>10*a+(c-48)) 0

theorem valD_app (l:List Nat) (x:Nat):Xv (l++[x])=10*Xv l+(x-48):=by unfold Xv; rw[List.foldl_append]; rfl
theorem valD_snoc {l:List Nat} {i x:Nat} (h:l[i]?=some x):Xv (l.take (i+1))=10*Xv (l.take i)+(x-48):=by
 rw[List.take_add_one,h]; exact valD_app _ _
theorem Qai {l:List Nat} (h:∀x∈l,48≤x∧x≤57):Xv l<10^l.length:=by
 have key:∀i,i≤l.length→Xv (l.take i)<10^i:=by
  intro i
  induction i with
  |zero=>intro _; simp[Xv]
  |succ i ih=>
   intro hi
   have h1:=ih (by omega)
   have h2:=h l[i] (List.getElem_mem (by omega))
   rw[valD_snoc (List.getElem?_eq_getElem (show i<l.length by omega)),Nat.pow_succ]
   omega
 have:=key l.length (Nat.le_refl _)
 rwa [List.take_length]at this
theorem Qe4 (l r:List Nat):Xv (l++r)=Xv l*10^r.length+Xv r:=by
 have key:∀(r:List Nat) (a:Nat),r.foldl (fun a c=>10*a+(c-48)) a=a*10^r.length+Xv r:=by
  intro r
  induction r with
  |nil=>intro a; simp[Xv]
  |cons x r ih=>
   intro a
   have h1:=ih (10*a+(x-48))
   have h2:=ih (10*0+(x-48))
   unfold Xv
   rw[List.foldl_cons,List.foldl_cons,h1,h2,List.length_cons,Nat.pow_succ,Nat.add_mul,Nat.mul_zero,Nat.zero_add,← Nat.add_assoc,Nat.mul_comm 10 a,Nat.mul_assoc,Nat.mul_comm 10]
 unfold Xv
 rw[List.foldl_append]
 exact key r _
def p10 (i:Nat):Nat:=10^i
theorem p10_bd {i:Nat} (h:i≤19):p10 i<Qb:=by
 have:p10 i≤10^19:=Nat.pow_le_pow_right (by omega) h
 unfold Qb; omega
theorem Bd.ten {n i:Nat} (h:n<10^i):Bd (4*i) n:=by
 have:(10:Nat)^i≤2^(4*i):=by
  rw[Nat.pow_mul]; exact Nat.pow_le_pow_left (by omega) _
 show n<2^(4*i)
 omega
set_option maxHeartbeats 1000000 in
theorem Qc5 (w:World) (l:List Nat) (hdg:∀x∈l,48≤x∧x≤57) (hl:l.length≤1000000):Calls Try.prog 56 #[.string (Qu l)] w (K4 .u64 Qb w (Xv l)):=by
 have hw:Wf 256 l:=fun x hx=>by have:=hdg x hx; omega
 go_enter Try.func56,Try.ntmps56
 go_wp2_with fail
 go_loopw [0,3] (fun s0 s3 wr=>∃(done rest:List Nat),l=done++rest∧s0=.string (Qu rest)∧Num .u64 Qb wr s3 (Xv done)∧Below w.heap.size w wr) (fun s0 _ _=>vsize s0)
 case atStart=>exact⟨[],l,rfl,rfl,Num.zero _ _ _,Below.refl _ _⟩
 case round=>
  obtain⟨done,rest,hd,rfl,hv,hb⟩:=hrel
  have hsz:=Yc rest
  rcases Nat.eq_zero_or_pos rest.length with h0|h0
  ·obtain rfl:rest=[]:=List.eq_nil_of_length_eq_zero h0
   rw[List.append_nil]at hd
   subst hd
   go_wp2
   go_ret
   exact⟨_,rfl,hv,hb⟩
  ·have h1:(1:Int)≤(rest.length:Int):=by omega
   obtain⟨K,hK,hK1,hK2,hK3⟩:∃K:Nat,min (rest.length:Int) 19=(K:Int)∧K≤rest.length∧K≤19∧1≤K:=⟨min rest.length 19,by omega,by omega,by omega,by omega⟩
   have hE:(Qu rest).extract 0 K=Qu (rest.take K):=by
    rw[V4]; simp
   have hwr:Wf 256 (rest.take K):=by
    intro x hx; exact hw x (by rw[hd]; exact List.mem_append_right _ (List.mem_of_mem_take hx))
   have hlt:(rest.take K).length=K:=by rw[List.length_take]; omega
   obtain⟨c,w1,hcv,hrd,hb1⟩:=str_bytes wr hwr (by omega)
   rw[hlt]at hcv
   go_wp2_with fail
   have hdc:∀x∈rest.take K,48≤x∧x≤57:=fun x hx=>hdg x (by rw[hd]; exact List.mem_append_right _ (List.mem_of_mem_take hx))
   have HDC:=bx hdc
   go_loop [5,6,20] (fun s5 s6 s20=>∃i:Nat,i≤K∧s5=.int .u64 (Xv ((rest.take K).take i):Nat)∧s6=.int .u64 ((p10 i:Nat):Int)∧s20=.int .i64 (i:Int)) (fun _ _ s20=>K-(intOf s20).toNat)
   case atStart=>exact⟨0,Nat.zero_le _,rfl,rfl,rfl⟩
   case round=>
    obtain⟨i,hi,rfl,rfl,rfl⟩:=hrel
    rcases Nat.lt_or_ge i K with hlt1|hge
    ·obtain⟨b,o,vx,hA,hcx,HVX⟩:=hrd.get (i:=i) (by omega)
     injection hA with hA
     injection hA with e1 e2 e3
     subst e1 e2
     clear e3
     rw[Nat.zero_add]at hcx
     have hi0:(0:Int)≤(i:Int):=by omega
     have hi1:(i:Int)<(K:Int):=by omega
     have hvx:=HDC.out vx (List.mem_of_getElem? HVX.out)
     have hvl:Xv ((rest.take K).take i)<10^i:=by
      have:=Qai (l:=(rest.take K).take i) (fun x hx=>HDC.out x (List.mem_of_mem_take hx))
      rwa [List.length_take,Nat.min_eq_left (by omega)]at this
     have hvs:Xv ((rest.take K).take (i+1))=10*Xv ((rest.take K).take i)+(vx-48):=valD_snoc HVX.out
     have hp:10^i≤10^18:=Nat.pow_le_pow_right (by omega) (by omega)
     have HV:=bx (And.intro hvl (And.intro hvs hp))
     clear hvl hvs hp
     go_wp2_with fail
     obtain⟨hvl,hvs,hp⟩:=HV.out
     have t1:IntKind.u64.wrap (10*((Xv ((rest.take K).take i):Nat):Int))=((10*Xv ((rest.take K).take i):Nat):Int):=by
      rw[wrap_u64 (by omega) (by omega)]; omega
     have t2:IntKind.u64.wrap (((10*Xv ((rest.take K).take i):Nat):Int)+((vx:Int)-48))=((Xv ((rest.take K).take (i+1)):Nat):Int):=by
      rw[wrap_u64 (by omega) (by omega),hvs]; omega
     have t3:IntKind.u64.wrap (((p10 i:Nat):Int)*10)=((p10 (i+1):Nat):Int):=by
      have e1:p10 i≤10^18:=hp
      have e2:p10 (i+1)=p10 i*10:=Nat.pow_succ ..
      rw[wrap_u64 (by omega) (by omega),e2]; omega
     rw[t1,t2,t3]
     exact⟨⟨i+1,by omega,rfl,rfl,by go_num⟩,by simp[intOf]; omega⟩
    ·obtain rfl:i=K:=by omega
     have hvl:Xv (rest.take i)<10^i:=by
      have:=Qai (l:=rest.take i) (fun x hx=>HDC.out x hx)
      rwa [hlt]at this
     have hvd:Bd (4*done.length) (Xv done):=Bd.ten (Qai (fun x hx=>hdg x (by rw[hd]; exact List.mem_append_left _ hx)))
     have hlen:done.length+rest.length=l.length:=by rw[hd,List.length_append]
     have hb64:(10:Nat)^i<Qb:=p10_bd hK2
     have HW1:=bx (show p10 i<Qb from hb64)
     have HW2:=bx (show Xv (rest.take i)<Qb by omega)
     have HB1:=bx hvd
     have HB2:=bx (show Bd 64 (p10 i) by show p10 i<2^64; have:=HW1.out; unfold Qb at this; omega)
     have HB3:=bx (show Bd 64 (Xv (rest.take i)) by show _<2^64; have:=HW2.out; unfold Qb at this; omega)
     have HBT:=bx (show Bd (4*done.length+64) (Xv done*p10 i)from hvd.mul HB2.out)
     have HJ:=bx (show 4*done.length≤1000000000 by omega)
     have HJ2:=bx (show 4*done.length+64≤1000000000 by omega)
     have HVA:=bx (show Xv (done++rest.take i)=Xv done*p10 i+Xv (rest.take i) by rw[Qe4,hlt]; rfl)
     have hE2:(Qu rest).extract i rest.length=Qu (rest.drop i):=by
      rw[V4,List.take_length]
     have HE2:=bx hE2
     have hv:=hv.below hb1
     have hb:=hb.trans (hb1.mono hb.size)
     have e1:(rest.take i).take i=rest.take i:=by rw[List.take_take,Nat.min_self]
     have E1:=bx e1
     clear e1 hvl hvd hlen hb64 hE2 hdg HDC hrd hcv hE hlt hK hb1
     go_wp2_with fail
     rw[E1.out]
     obtain⟨A3,c3,rfl,_⟩:=id hv
     have hz:Below w.heap.size w w1.drew:=hb.drew
     have hv:Num .u64 Qb w1.drew _ _:=hv
     go_region_held3 (fun w'=>Below w.heap.size w w')
      (exact hz)
      (first
       |(go_at_call 59; (with_reducible refine Calls.mono (Ki _ _ HW1.out) ?_); rintro e wz ⟨vu,rfl,hu,hb2⟩; (try have hv:=hv.below hb2); (try have hx:=hx.below hb2); (try have ht:=ht.below hb2); have hz:=hz.trans (hb2.mono hz.size))
       |(go_at_call 59; (with_reducible refine Calls.mono (Ki _ _ HW2.out) ?_); rintro e wz ⟨vx,rfl,hx,hb2⟩; (try have hv:=hv.below hb2); (try have hu:=hu.below hb2); (try have ht:=ht.below hb2); have hz:=hz.trans (hb2.mono hz.size))
       |(go_at_call 39; have hc:=Uk _ _ _ _ _ hv hu HB1.out HB2.out HJ.out (by omega); (with_reducible refine Calls.mono hc ?_); clear hc; rintro e wz ⟨vt,rfl,ht,hb2⟩; (try have hx:=hx.below hb2); have hz:=hz.trans (hb2.mono hz.size))
       |(go_at_call 41; have hc:=plus_num _ _ _ _ _ ht hx HBT.out HB3.out HJ2.out (by omega); (with_reducible refine Calls.mono hc ?_); clear hc; rintro e wz ⟨vp,rfl,hp,hb2⟩; have hz:=hz.trans (hb2.mono hz.size)))
     all_goals
      rw[HE2.out]
      go_roundw
      case rel=>
       have hfin:Num .u64 Qb wz vp (Xv (done++rest.take i)):=by rw[HVA.out]; exact hp
       have hda:l=(done++rest.take i)++rest.drop i:=by rw[List.append_assoc,List.take_append_drop]; exact hd
       (repeat apply Exists.intro)
       exact⟨⟨done++rest.take i,rest.drop i,hda,rfl,hfin,hz⟩,rfl⟩
      case measure=>simp[vsize,Yc]; omega
end Wx

namespace Wx
set_option maxRecDepth 100000
open Go Go.RowKit Go.Proofs

def denS (r:List Nat):List Nat:=if 47∈r then J2 r else[49]
def parseOk (l:List Nat):Bool:=Jr (Ye (Xk l))&&(Jr (denS (Xk l))&&decide (denS (Xk l)≠[48]))
def parseQ (l:List Nat):Rat:=Yn (Ua l) (Xv (Ye (Xk l))) (Xv (denS (Xk l)))
theorem befS_sub {l:List Nat} {x:Nat} (h:x∈Ye l):x∈l:=(List.takeWhile_sublist _).subset h
theorem aftS_sub {l:List Nat} {x:Nat} (h:x∈J2 l):x∈l:=List.mem_of_mem_drop h
theorem restS_sub {l:List Nat} {x:Nat} (h:x∈Xk l):x∈l:=by
 unfold Xk at h
 split at h
 ·exact List.mem_of_mem_tail h
 ·exact h
theorem restS_len (l:List Nat):(Xk l).length≤l.length:=by
 unfold Xk
 split
 ·rw[List.length_tail]; omega
 ·exact Nat.le_refl _
theorem befS_len (l:List Nat):(Ye l).length≤l.length:=(List.takeWhile_sublist _).length_le
theorem aftS_len (l:List Nat):(J2 l).length≤l.length:=by unfold J2; rw[List.length_drop]; omega
theorem Jv {l:List Nat} (h:Jr l=true):∀x∈l,48≤x∧x≤57:=by
 unfold Jr at h
 rw[Bool.and_eq_true,List.all_eq_true]at h
 intro x hx
 have:=h.1 x hx
 unfold isDig at this
 simpa using this
theorem valD_cons (x:Nat) (l:List Nat):Xv (x::l)=(x-48)*10^l.length+Xv l:=by
 have:=Qe4 [x] l
 simpa [Xv] using this
theorem Qep {l:List Nat} (h:Jr l=true) (h0:l≠[48]):0<Xv l:=by
 have hd:=Jv h
 unfold Jr at h
 rw[Bool.and_eq_true,Bool.or_eq_true,Bool.and_eq_true,decide_eq_true_eq,decide_eq_true_eq,decide_eq_true_eq]at h
 rcases h.2 with h1|⟨h1,h2⟩
 ·exact absurd h1 h0
 ·cases l with
  |nil=>exact absurd rfl h1
  |cons x l=>
   have:=hd x (by simp)
   have h3:x≠48:=by simpa using h2
   rw[valD_cons]
   have h4:0<(x-48)*10^l.length:=Nat.mul_pos (by omega) (Nat.pow_pos (by omega))
   omega
theorem strOf_ne {l r:List Nat} (hl:Wf 256 l) (hr:Wf 256 r) (h:¬l=r):¬(Qu l).toList=(Qu r).toList:=fun e=>h (Qcc hl hr e)
theorem textB_wf (n:Nat):Wf 256 (Ya n):=by
 unfold Ya
 split
 ·intro x hx; simp at hx; omega
 ·exact decB_wf _
theorem textR_wf (q:Rat):Wf 256 (Z7 q):=by
 intro x hx
 unfold Z7 at hx
 rcases List.mem_append.1 hx with h|h
 ·split at h
  ·simp at h; omega
  ·simp at h
 ·rcases List.mem_append.1 h with h|h
  ·exact textB_wf _ x h
  ·split at h
   ·simp at h
   ·rcases List.mem_cons.1 h with h|h
    ·omega
    ·exact textB_wf _ x h
set_option maxHeartbeats 1000000 in
theorem parse_f0 (w:World) (l:List Nat) (hw:Wf 256 l) (hl:l.length≤4096) (hm:¬47∈Xk l) (h1:Jr (Ye (Xk l))=true) (h2:Jr [49]=true) (h3:¬ [49]=[48]) (h4:Z7 (Yn (Ua l) (Xv (Ye (Xk l))) (Xv [49]))=l):Calls Try.prog 28 #[.string (Qu l)] w (RetRE w (Yn (Ua l) (Xv (Ye (Xk l))) (Xv [49])) 0):=by
 have hwr:Wf 256 (Xk l):=fun x hx=>hw x (restS_sub hx)
 have hwn:Wf 256 (Ye (Xk l)):=fun x hx=>hwr x (befS_sub hx)
 have hwd:Wf 256 [49]:=by intro x hx; simp at hx; omega
 have hlr:=restS_len l
 have hln:=befS_len (Xk l)
 have hld:[49].length≤4096:=by simp
 have hs:=Yc l
 have hl0:(l.length:Int)≤4096:=by omega
 have hc1:=fun w=>Qb1 w l hw
 have hc2:=fun w=>cut_slash w (Xk l) hwr (by omega)
 simp only[decide_eq_false hm]at hc2
 have hc3:=fun w=>Qa4 w (Ye (Xk l)) hwn (by omega)
 rw[h1]at hc3
 have hc4:∀w,Calls Try.prog 55 #[.string ⟨#[49]⟩] w (Zv w (.bool true)):=fun w=>by have h:=Qa4 w [49] hwd (by omega); rw[h2]at h; exact h
 have hc5:=fun w=>Qc5 w (Ye (Xk l)) (Jv h1) (by omega)
 have hc6:∀w,Calls Try.prog 56 #[.string ⟨#[49]⟩] w (K4 .u64 Qb w (Xv [49])):=fun w=>Qc5 w [49] (Jv h2) (by omega)
 have HV:=bx (Qep h2 h3)
 have HB1:Bx (Bd 16384 (Xv (Ye (Xk l)))):=bx ((Bd.ten (Qai (Jv h1))).mono (by omega))
 have HB2:Bx (Bd 16384 (Xv [49])):=bx ((Bd.ten (Qai (Jv h2))).mono (by omega))
 have hbq:=K6 (neg:=Ua l) HV.out HB1.out HB2.out
 have hwt:=textR_wf (Yn (Ua l) (Xv (Ye (Xk l))) (Xv [49]))
 generalize hq:(Yn (Ua l) (Xv (Ye (Xk l))) (Xv [49]))=q at *
 have HQ:=bx hq
 have HBQ:=bx hbq
 have ht:((Qu (Z7 q)).toList==(Qu l).toList)=true:=beq_iff_eq.2 (by rw[h4])
 clear hwt hq hbq h4
 have HC1:=bx hc1
 have HC2:=bx hc2
 have HC3:=bx hc3
 have HC4:=bx hc4
 have HC5:=bx hc5
 have HC6:=bx hc6
 clear hw hwr hwn hwd hlr hln hld hl hm hc1 hc2 hc3 h1 hc4 h2 hc5 hc6 h3
 go_enter Try.func28,Try.ntmps28
 go_wp2_with fail
 obtain⟨w1,e1,o1,b1,s1⟩:=Yz w (.bool false) (.slice none 0 0) (.slice none 0 0) 32
 rw[e1]
 clear e1 s1
 have hz:HeldR w w.heap.size 32 [] w1:=⟨b1,Nat.le_refl _,by simp,_,_,_,o1,Yw _,Q7 _ _ _,Q7 _ _ _⟩
 refine Calls.mono (HC1.out _) ?_
 rintro e w' ⟨rfl,rfl⟩
 go_wp2_with fail
 refine Calls.mono (HC2.out _) ?_
 rintro e w2 ⟨rfl,hb2⟩
 have hz:=HeldR.call (And.intro hz trivial) hb2
 go_wp2_with fail
 refine Calls.mono (HC3.out _) ?_
 rintro e w3 ⟨rfl,hb3⟩
 have hz:=HeldR.call (And.intro hz trivial) hb3
 go_wp2_with fail
 refine Calls.mono (HC4.out _) ?_
 rintro e w4 ⟨rfl,hb4⟩
 have hz:=HeldR.call (And.intro hz trivial) hb4
 go_wp2_with fail
 refine Calls.mono (HC5.out _) ?_
 rintro e w5 ⟨vn,rfl,hn,hb5⟩
 have hz:=HeldR.call (And.intro hz trivial) hb5
 go_wp2_with fail
 refine Calls.mono (HC6.out _) ?_
 rintro e w6 ⟨vd,rfl,hd,hb6⟩
 have hn:=hn.below hb6
 have hz:=HeldR.call (And.intro hz trivial) hb6
 go_wp2_with fail
 refine Calls.mono (Jx w6 _ _ _ _ _ hn hd HV.out HB1.out HB2.out (by omega)) ?_
 rw[HQ.out]
 rintro e w7 ⟨vr,rfl,hr,hb7⟩
 have hz:=HeldR.call (And.intro hz trivial) hb7
 obtain⟨vrn,vrd,rfl,hrn,hrd⟩:=id hr
 obtain⟨Ar1,cr1,rfl,_⟩:=id hrn
 obtain⟨Ar2,cr2,rfl,_⟩:=id hrd
 go_wp2_with fail
 obtain⟨w8,e8,o8,b8,s8⟩:=Yz w7 (.bool (decide (q.num<0))) (.slice Ar1 (digs Qb q.num.natAbs).length cr1) (.slice Ar2 (digs Qb (Qm q.den)).length cr2) 32
 rw[e8]
 clear e8 s8
 have hz:=HeldR.call (And.intro hz trivial) b8
 refine Calls.mono (Qcb w8 _ q (hr.below b8) HBQ.out (by omega)) ?_
 rintro e w9 ⟨rfl,hb9⟩
 have hz:=HeldR.call (And.intro hz trivial) hb9
 have o9:=o8.gone hb9
 obtain⟨k0,k1,k2,k3,k4,k5⟩:=hz.cells
 have k6:=o9.c0
 have k7:=o9.c1
 have k8:=o9.c2
 have hrn:=(hrn.below b8).below hb9
 have hrd:=(hrd.below b8).below hb9
 go_wp2
 obtain⟨wf,HW,f0,f1,f2,hfin⟩:=hz.fin rfl hrn hrd
 rw[HW]
 (try simp only[Exit.inBlock,Exit.then])
 refine bodyPost_ret (by simp[results,Try.results28,go_sem,f0,f1,f2]; try rfl) rfl ?_
 exact RetRE.of hfin 0

set_option maxHeartbeats 1000000 in
theorem parse_f1 (w:World) (l:List Nat) (hw:Wf 256 l) (hl:l.length≤4096) (hm:47∈Xk l) (h1:Jr (Ye (Xk l))=true) (h2:Jr (J2 (Xk l))=true) (h3:¬(J2 (Xk l))=[48]) (h4:Z7 (Yn (Ua l) (Xv (Ye (Xk l))) (Xv (J2 (Xk l))))=l):Calls Try.prog 28 #[.string (Qu l)] w (RetRE w (Yn (Ua l) (Xv (Ye (Xk l))) (Xv (J2 (Xk l)))) 0):=by
 have hwr:Wf 256 (Xk l):=fun x hx=>hw x (restS_sub hx)
 have hwn:Wf 256 (Ye (Xk l)):=fun x hx=>hwr x (befS_sub hx)
 have hwd:Wf 256 (J2 (Xk l)):=fun x hx=>hwr x (aftS_sub hx)
 have hlr:=restS_len l
 have hln:=befS_len (Xk l)
 have hld:(J2 (Xk l)).length≤4096:=Nat.le_trans (aftS_len _) (by omega)
 have hs:=Yc l
 have hl0:(l.length:Int)≤4096:=by omega
 have hc1:=fun w=>Qb1 w l hw
 have hc2:=fun w=>cut_slash w (Xk l) hwr (by omega)
 simp only[decide_eq_true hm]at hc2
 have hc3:=fun w=>Qa4 w (Ye (Xk l)) hwn (by omega)
 rw[h1]at hc3
 have hc4:∀w,Calls Try.prog 55 #[.string (Qu (J2 (Xk l)))] w (Zv w (.bool true)):=fun w=>by have h:=Qa4 w (J2 (Xk l)) hwd (by omega); rw[h2]at h; exact h
 have hc5:=fun w=>Qc5 w (Ye (Xk l)) (Jv h1) (by omega)
 have hc6:∀w,Calls Try.prog 56 #[.string (Qu (J2 (Xk l)))] w (K4 .u64 Qb w (Xv (J2 (Xk l)))):=fun w=>Qc5 w (J2 (Xk l)) (Jv h2) (by omega)
 have HV:=bx (Qep h2 h3)
 have HB1:Bx (Bd 16384 (Xv (Ye (Xk l)))):=bx ((Bd.ten (Qai (Jv h1))).mono (by omega))
 have HB2:Bx (Bd 16384 (Xv (J2 (Xk l)))):=bx ((Bd.ten (Qai (Jv h2))).mono (by omega))
 have hbq:=K6 (neg:=Ua l) HV.out HB1.out HB2.out
 have hwt:=textR_wf (Yn (Ua l) (Xv (Ye (Xk l))) (Xv (J2 (Xk l))))
 generalize hq:(Yn (Ua l) (Xv (Ye (Xk l))) (Xv (J2 (Xk l))))=q at *
 have HQ:=bx hq
 have HBQ:=bx hbq
 have ht:((Qu (Z7 q)).toList==(Qu l).toList)=true:=beq_iff_eq.2 (by rw[h4])
 clear hwt hq hbq h4
 have htd:((Qu (J2 (Xk l))).toList==[48])=false:=beq_eq_false_iff_ne.2 (by rw[show([48]:List UInt8)=(Qu [48]).toList by rw[Ji]; rfl]; exact strOf_ne (r:=[48]) hwd (by intro x hx; simp at hx; omega) h3)
 have HC1:=bx hc1
 have HC2:=bx hc2
 have HC3:=bx hc3
 have HC4:=bx hc4
 have HC5:=bx hc5
 have HC6:=bx hc6
 clear hw hwr hwn hwd hlr hln hld hl hm hc1 hc2 hc3 h1 hc4 h2 hc5 hc6 h3
 go_enter Try.func28,Try.ntmps28
 go_wp2_with fail
 obtain⟨w1,e1,o1,b1,s1⟩:=Yz w (.bool false) (.slice none 0 0) (.slice none 0 0) 32
 rw[e1]
 clear e1 s1
 have hz:HeldR w w.heap.size 32 [] w1:=⟨b1,Nat.le_refl _,by simp,_,_,_,o1,Yw _,Q7 _ _ _,Q7 _ _ _⟩
 refine Calls.mono (HC1.out _) ?_
 rintro e w' ⟨rfl,rfl⟩
 go_wp2_with fail
 refine Calls.mono (HC2.out _) ?_
 rintro e w2 ⟨rfl,hb2⟩
 have hz:=HeldR.call (And.intro hz trivial) hb2
 go_wp2_with fail
 refine Calls.mono (HC3.out _) ?_
 rintro e w3 ⟨rfl,hb3⟩
 have hz:=HeldR.call (And.intro hz trivial) hb3
 go_wp2_with fail
 refine Calls.mono (HC4.out _) ?_
 rintro e w4 ⟨rfl,hb4⟩
 have hz:=HeldR.call (And.intro hz trivial) hb4
 go_wp2_with fail
 refine Calls.mono (HC5.out _) ?_
 rintro e w5 ⟨vn,rfl,hn,hb5⟩
 have hz:=HeldR.call (And.intro hz trivial) hb5
 go_wp2_with fail
 refine Calls.mono (HC6.out _) ?_
 rintro e w6 ⟨vd,rfl,hd,hb6⟩
 have hn:=hn.below hb6
 have hz:=HeldR.call (And.intro hz trivial) hb6
 go_wp2_with fail
 refine Calls.mono (Jx w6 _ _ _ _ _ hn hd HV.out HB1.out HB2.out (by omega)) ?_
 rw[HQ.out]
 rintro e w7 ⟨vr,rfl,hr,hb7⟩
 have hz:=HeldR.call (And.intro hz trivial) hb7
 obtain⟨vrn,vrd,rfl,hrn,hrd⟩:=id hr
 obtain⟨Ar1,cr1,rfl,_⟩:=id hrn
 obtain⟨Ar2,cr2,rfl,_⟩:=id hrd
 go_wp2_with fail
 obtain⟨w8,e8,o8,b8,s8⟩:=Yz w7 (.bool (decide (q.num<0))) (.slice Ar1 (digs Qb q.num.natAbs).length cr1) (.slice Ar2 (digs Qb (Qm q.den)).length cr2) 32
 rw[e8]
 clear e8 s8
 have hz:=HeldR.call (And.intro hz trivial) b8
 refine Calls.mono (Qcb w8 _ q (hr.below b8) HBQ.out (by omega)) ?_
 rintro e w9 ⟨rfl,hb9⟩
 have hz:=HeldR.call (And.intro hz trivial) hb9
 have o9:=o8.gone hb9
 obtain⟨k0,k1,k2,k3,k4,k5⟩:=hz.cells
 have k6:=o9.c0
 have k7:=o9.c1
 have k8:=o9.c2
 have hrn:=(hrn.below b8).below hb9
 have hrd:=(hrd.below b8).below hb9
 go_wp2
 obtain⟨wf,HW,f0,f1,f2,hfin⟩:=hz.fin rfl hrn hrd
 rw[HW]
 (try simp only[Exit.inBlock,Exit.then])
 refine bodyPost_ret (by simp[results,Try.results28,go_sem,f0,f1,f2]; try rfl) rfl ?_
 exact RetRE.of hfin 0


theorem parse_ok (w:World) (l:List Nat) (hw:Wf 256 l) (hl:l.length≤4096) (h1:parseOk l=true) (h2:Z7 (parseQ l)=l):Calls Try.prog 28 #[.string (Qu l)] w (RetRE w (parseQ l) 0):=by
 unfold parseOk at h1
 rw[Bool.and_eq_true,Bool.and_eq_true,decide_eq_true_eq]at h1
 obtain⟨a,b,c⟩:=h1
 unfold parseQ at h2 ⊢
 by_cases hm:47∈Xk l
 ·have e:denS (Xk l)=J2 (Xk l):=if_pos hm
  rw[e]at b c h2 ⊢
  exact parse_f1 w l hw hl hm a b c h2
 ·have e:denS (Xk l)=[49]:=if_neg hm
  rw[e]at b c h2 ⊢
  exact parse_f0 w l hw hl hm a b c h2
end Wx
