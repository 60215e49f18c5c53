import Derived.Test.YtpiniclogfefjaaGreatJSolves27
namespace Wx
open Go Go.RowKit Go.Proofs

theorem floor_num (w:World) (vx:Value) (x:Rat) (hx:IsRat w vx x) {j:Nat} (hj:BdR j x) (hjk:j≤10000000):Calls Tryz.prog 35 #[vx] w (RetRat w (Qav x 0)):=by
 obtain⟨vx1,vx2,rfl,hxa,hxb⟩:=id hx
 obtain⟨Ax1,cx1,rfl,_⟩:=id hxa
 obtain⟨Ax2,cx2,rfl,_⟩:=id hxb
 go_enter Tryz.func35,Tryz.ntmps35
 go_wp2_with fail
 obtain⟨w1,e1,o1,b1,s1⟩:=Js w (.bool (decide (x.num<0))) (.slice Ax1 (digs Qa x.num.natAbs).length cx1) (.slice Ax2 (digs Qa (Qo x.den)).length cx2) 38
 obtain⟨w2,e2,o2,b2,s2⟩:=Js w1 (.bool false) (.slice none 0 0) (.slice none 0 0) 38
 rw[e1,e2]
 rw[s1]at o2
 have p1:=(o1.gone b2)
 have p2:=o2
 have B0:=(b1.trans (b2.mono b1.size))
 have hS:∀w',HeldR w (w.heap.size+1) 38 [(w.heap.size,.bool (decide (x.num<0)),.slice Ax1 (digs Qa x.num.natAbs).length cx1,.slice Ax2 (digs Qa (Qo x.den)).length cx2)] w'→HeldR w (w.heap.size+1) 38 [(w.heap.size,.bool (decide (x.num<0)),.slice Ax1 (digs Qa x.num.natAbs).length cx1,.slice Ax2 (digs Qa (Qo x.den)).length cx2)] w'∧w'.cell? ⟨w.heap.size,0,none⟩=some (.bool (decide (x.num<0)))∧w'.cell? ⟨w.heap.size,1,none⟩=some (.slice Ax1 (digs Qa x.num.natAbs).length cx1)∧w'.cell? ⟨w.heap.size,2,none⟩=some (.slice Ax2 (digs Qa (Qo x.den)).length cx2)∧w'.cell? ⟨w.heap.size+1,0,none⟩=some (cv w' ⟨w.heap.size+1,0,none⟩)∧w'.cell? ⟨w.heap.size+1,1,none⟩=some (cv w' ⟨w.heap.size+1,1,none⟩)∧w'.cell? ⟨w.heap.size+1,2,none⟩=some (cv w' ⟨w.heap.size+1,2,none⟩)∧w'.frozen? ⟨w.heap.size+1,0,none⟩=false∧w'.frozen? ⟨w.heap.size+1,1,none⟩=false∧w'.frozen? ⟨w.heap.size+1,2,none⟩=false:=fun w' hh=>by
  obtain⟨f0,f1,f2,f3,f4,f5⟩:=hh.cells
  have q1:=(hh.2.2.1 (w.heap.size,.bool (decide (x.num<0)),.slice Ax1 (digs Qa x.num.natAbs).length cx1,.slice Ax2 (digs Qa (Qo x.den)).length cx2) (by simp)).2
  exact⟨hh,q1.c0,q1.c1,q1.c2,f0,f1,f2,f3,f4,f5⟩
 have H0:HeldR w (w.heap.size+1) 38 [(w.heap.size,.bool (decide (x.num<0)),.slice Ax1 (digs Qa x.num.natAbs).length cx1,.slice Ax2 (digs Qa (Qo x.den)).length cx2)] w2:=⟨B0,by omega,by intro p hp; simp at hp; subst hp; exact⟨by simp,p1⟩,_,_,_,p2,Y3 _,Xi _ _ _,Xi _ _ _⟩
 clear e1 e2
 have hz:=H0
 obtain⟨_,k0,k1,k2,k3,k4,k5⟩:=hS _ hz
 refine(down_num _ _ x 0 (hx.below hz.1) hj hjk).mono ?_
 rintro e wy ⟨vr,rfl,hrr,hb⟩
 have hz:=HeldR.call (And.intro hz trivial) hb
 clear k0 k1 k2 k3 k4 k5
 obtain⟨vrn,vrd,rfl,hrn,hrd⟩:=id hrr
 obtain⟨Ar1,cr1,rfl,_⟩:=id hrn
 obtain⟨Ar2,cr2,rfl,_⟩:=id hrd
 obtain⟨_,k0,k1,k2,k3,k4,k5,k6,k7,k8⟩:=hS _ hz
 go_wp2
 obtain⟨wf,HW,f0,f1,f2,hfin⟩:=hz.fin rfl hrn hrd
 rw[HW]
 (try simp only[Exit.inBlock,Exit.then])
 refine bodyPost_ret (by simp[results,Tryz.results35,go_sem,f0,f1,f2]; try rfl) rfl ?_
 exact hfin
end Wx

namespace Wx
set_option maxRecDepth 100000
open Go Go.RowKit Go.Proofs

def vsize:Value→Nat|.string s=>s.size|_=>0
def Yd (l:List Nat):Nat:=l.foldl (fun a c=>10*a+(c-48)) 0

theorem valD_app (l:List Nat) (x:Nat):Yd (l++[x])=10*Yd l+(x-48):=by unfold Yd; rw[List.foldl_append]; rfl
theorem valD_snoc {l:List Nat} {i x:Nat} (h:l[i]?=some x):Yd (l.take (i+1))=10*Yd (l.take i)+(x-48):=by
 rw[List.take_add_one,h]; exact valD_app _ _
theorem Qc8 {l:List Nat} (h:∀x∈l,48≤x∧x≤57):Yd l<10^l.length:=by
 have key:∀i,i≤l.length→Yd (l.take i)<10^i:=by
  intro i
  induction i with
  |zero=>intro _; simp[Yd]
  |succ i ih=>
   intro hi
   have h1:=ih (by omega)
   have h2:=h l[i] (List.getElem_mem (by omega))
   rw[valD_snoc (List.getElem?_eq_getElem (show i<l.length by omega)),Nat.pow_succ]
   omega
 have:=key l.length (Nat.le_refl _)
 rwa [List.take_length]at this
theorem Qio (l r:List Nat):Yd (l++r)=Yd l*10^r.length+Yd r:=by
 have key:∀(r:List Nat) (a:Nat),r.foldl (fun a c=>10*a+(c-48)) a=a*10^r.length+Yd r:=by
  intro r
  induction r with
  |nil=>intro a; simp[Yd]
  |cons x r ih=>
   intro a
   have h1:=ih (10*a+(x-48))
   have h2:=ih (10*0+(x-48))
   unfold Yd
   rw[List.foldl_cons,List.foldl_cons,h1,h2,List.length_cons,Nat.pow_succ,Nat.add_mul,Nat.mul_zero,Nat.zero_add,← Nat.add_assoc,Nat.mul_comm 10 a,Nat.mul_assoc,Nat.mul_comm 10]
 unfold Yd
 rw[List.foldl_append]
 exact key r _
def p10 (i:Nat):Nat:=10^i
theorem p10_bd {i:Nat} (h:i≤19):p10 i<Qa:=by
 have:p10 i≤10^19:=Nat.pow_le_pow_right (by omega) h
 unfold Qa; omega
theorem Bd.ten {n i:Nat} (h:n<10^i):Bd (4*i) n:=by
 have:(10:Nat)^i≤2^(4*i):=by
  rw[Nat.pow_mul]; exact Nat.pow_le_pow_left (by omega) _
 show n<2^(4*i)
 omega
set_option maxHeartbeats 1000000 in
theorem Qgf (w:World) (l:List Nat) (hdg:∀x∈l,48≤x∧x≤57) (hl:l.length≤1000000):Calls Tryz.prog 75 #[.string (Qp l)] w (J6 .u64 Qa w (Yd l)):=by
 have hw:Wf 256 l:=fun x hx=>by have:=hdg x hx; omega
 go_enter Tryz.func75,Tryz.ntmps75
 go_wp2_with fail
 go_loopw [0,3] (fun s0 s3 wr=>∃(done rest:List Nat),l=done++rest∧s0=.string (Qp rest)∧Num .u64 Qa wr s3 (Yd done)∧Below w.heap.size w wr) (fun s0 _ _=>vsize s0)
 case atStart=>exact⟨[],l,rfl,rfl,Num.zero _ _ _,Below.refl _ _⟩
 case round=>
  obtain⟨done,rest,hd,rfl,hv,hb⟩:=hrel
  have hsz:=Xs rest
  rcases Nat.eq_zero_or_pos rest.length with h0|h0
  ·obtain rfl:rest=[]:=List.eq_nil_of_length_eq_zero h0
   rw[List.append_nil]at hd
   subst hd
   go_wp2
   go_ret
   exact⟨_,rfl,hv,hb⟩
  ·have h1:(1:Int)≤(rest.length:Int):=by omega
   obtain⟨K,hK,hK1,hK2,hK3⟩:∃K:Nat,min (rest.length:Int) 19=(K:Int)∧K≤rest.length∧K≤19∧1≤K:=⟨min rest.length 19,by omega,by omega,by omega,by omega⟩
   have hE:(Qp rest).extract 0 K=Qp (rest.take K):=by
    rw[Qbh]; simp
   have hwr:Wf 256 (rest.take K):=by
    intro x hx; exact hw x (by rw[hd]; exact List.mem_append_right _ (List.mem_of_mem_take hx))
   have hlt:(rest.take K).length=K:=by rw[List.length_take]; omega
   obtain⟨c,w1,hcv,hrd,hb1⟩:=str_bytes wr hwr (by omega)
   rw[hlt]at hcv
   go_wp2_with fail
   have hdc:∀x∈rest.take K,48≤x∧x≤57:=fun x hx=>hdg x (by rw[hd]; exact List.mem_append_right _ (List.mem_of_mem_take hx))
   have HDC:=bx hdc
   go_loop [5,6,20] (fun s5 s6 s20=>∃i:Nat,i≤K∧s5=.int .u64 (Yd ((rest.take K).take i):Nat)∧s6=.int .u64 ((p10 i:Nat):Int)∧s20=.int .i64 (i:Int)) (fun _ _ s20=>K-(intOf s20).toNat)
   case atStart=>exact⟨0,Nat.zero_le _,rfl,rfl,rfl⟩
   case round=>
    obtain⟨i,hi,rfl,rfl,rfl⟩:=hrel
    rcases Nat.lt_or_ge i K with hlt1|hge
    ·obtain⟨b,o,vx,hA,hcx,HVX⟩:=hrd.get (i:=i) (by omega)
     injection hA with hA
     injection hA with e1 e2 e3
     subst e1 e2
     clear e3
     rw[Nat.zero_add]at hcx
     have hi0:(0:Int)≤(i:Int):=by omega
     have hi1:(i:Int)<(K:Int):=by omega
     have hvx:=HDC.out vx (List.mem_of_getElem? HVX.out)
     have hvl:Yd ((rest.take K).take i)<10^i:=by
      have:=Qc8 (l:=(rest.take K).take i) (fun x hx=>HDC.out x (List.mem_of_mem_take hx))
      rwa [List.length_take,Nat.min_eq_left (by omega)]at this
     have hvs:Yd ((rest.take K).take (i+1))=10*Yd ((rest.take K).take i)+(vx-48):=valD_snoc HVX.out
     have hp:10^i≤10^18:=Nat.pow_le_pow_right (by omega) (by omega)
     have HV:=bx (And.intro hvl (And.intro hvs hp))
     clear hvl hvs hp
     go_wp2_with fail
     obtain⟨hvl,hvs,hp⟩:=HV.out
     have t1:IntKind.u64.wrap (10*((Yd ((rest.take K).take i):Nat):Int))=((10*Yd ((rest.take K).take i):Nat):Int):=by
      rw[wrap_u64 (by omega) (by omega)]; omega
     have t2:IntKind.u64.wrap (((10*Yd ((rest.take K).take i):Nat):Int)+((vx:Int)-48))=((Yd ((rest.take K).take (i+1)):Nat):Int):=by
      rw[wrap_u64 (by omega) (by omega),hvs]; omega
     have t3:IntKind.u64.wrap (((p10 i:Nat):Int)*10)=((p10 (i+1):Nat):Int):=by
      have e1:p10 i≤10^18:=hp
      have e2:p10 (i+1)=p10 i*10:=Nat.pow_succ ..
      rw[wrap_u64 (by omega) (by omega),e2]; omega
     rw[t1,t2,t3]
     exact⟨⟨i+1,by omega,rfl,rfl,by go_num⟩,by simp[intOf]; omega⟩
    ·obtain rfl:i=K:=by omega
     have hvl:Yd (rest.take i)<10^i:=by
      have:=Qc8 (l:=rest.take i) (fun x hx=>HDC.out x hx)
      rwa [hlt]at this
     have hvd:Bd (4*done.length) (Yd done):=Bd.ten (Qc8 (fun x hx=>hdg x (by rw[hd]; exact List.mem_append_left _ hx)))
     have hlen:done.length+rest.length=l.length:=by rw[hd,List.length_append]
     have hb64:(10:Nat)^i<Qa:=p10_bd hK2
     have HW1:=bx (show p10 i<Qa from hb64)
     have HW2:=bx (show Yd (rest.take i)<Qa by omega)
     have HB1:=bx hvd
     have HB2:=bx (show Bd 64 (p10 i) by show p10 i<2^64; have:=HW1.out; unfold Qa at this; omega)
     have HB3:=bx (show Bd 64 (Yd (rest.take i)) by show _<2^64; have:=HW2.out; unfold Qa at this; omega)
     have HBT:=bx (show Bd (4*done.length+64) (Yd done*p10 i)from hvd.mul HB2.out)
     have HJ:=bx (show 4*done.length≤1000000000 by omega)
     have HJ2:=bx (show 4*done.length+64≤1000000000 by omega)
     have HVA:=bx (show Yd (done++rest.take i)=Yd done*p10 i+Yd (rest.take i) by rw[Qio,hlt]; rfl)
     have hE2:(Qp rest).extract i rest.length=Qp (rest.drop i):=by
      rw[Qbh,List.take_length]
     have HE2:=bx hE2
     have hv:=hv.below hb1
     have hb:=hb.trans (hb1.mono hb.size)
     have e1:(rest.take i).take i=rest.take i:=by rw[List.take_take,Nat.min_self]
     have E1:=bx e1
     clear e1 hvl hvd hlen hb64 hE2 hdg HDC hrd hcv hE hlt hK hb1
     go_wp2_with fail
     rw[E1.out]
     obtain⟨A3,c3,rfl,_⟩:=id hv
     have hz:Below w.heap.size w w1.drew:=hb.drew
     have hv:Num .u64 Qa w1.drew _ _:=hv
     go_region_held3 (fun w'=>Below w.heap.size w w')
      (exact hz)
      (first
       |(go_at_call 106; (with_reducible refine Calls.mono (Vd _ _ HW1.out) ?_); rintro e wz ⟨vu,rfl,hu,hb2⟩; (try have hv:=hv.below hb2); (try have hx:=hx.below hb2); (try have ht:=ht.below hb2); have hz:=hz.trans (hb2.mono hz.size))
       |(go_at_call 106; (with_reducible refine Calls.mono (Vd _ _ HW2.out) ?_); rintro e wz ⟨vx,rfl,hx,hb2⟩; (try have hv:=hv.below hb2); (try have hu:=hu.below hb2); (try have ht:=ht.below hb2); have hz:=hz.trans (hb2.mono hz.size))
       |(go_at_call 96; have hc:=Qb7 _ _ _ _ _ hv hu HB1.out HB2.out HJ.out (by omega); (with_reducible refine Calls.mono hc ?_); clear hc; rintro e wz ⟨vt,rfl,ht,hb2⟩; (try have hx:=hx.below hb2); have hz:=hz.trans (hb2.mono hz.size))
       |(go_at_call 100; have hc:=plus_num _ _ _ _ _ ht hx HBT.out HB3.out HJ2.out (by omega); (with_reducible refine Calls.mono hc ?_); clear hc; rintro e wz ⟨vp,rfl,hp,hb2⟩; have hz:=hz.trans (hb2.mono hz.size)))
     all_goals
      rw[HE2.out]
      go_roundw
      case rel=>
       have hfin:Num .u64 Qa wz vp (Yd (done++rest.take i)):=by rw[HVA.out]; exact hp
       have hda:l=(done++rest.take i)++rest.drop i:=by rw[List.append_assoc,List.take_append_drop]; exact hd
       (repeat apply Exists.intro)
       exact⟨⟨done++rest.take i,rest.drop i,hda,rfl,hfin,hz⟩,rfl⟩
      case measure=>simp[vsize,Xs]; omega
end Wx

namespace Wx
set_option maxRecDepth 100000
open Go Go.RowKit Go.Proofs

def denS (r:List Nat):List Nat:=if 47∈r then Wi r else[49]
def parseOk (l:List Nat):Bool:=K0 (Y1 (X7 l))&&(K0 (denS (X7 l))&&decide (denS (X7 l)≠[48]))
def parseQ (l:List Nat):Rat:=Yf (negS l) (Yd (Y1 (X7 l))) (Yd (denS (X7 l)))
theorem befS_sub {l:List Nat} {x:Nat} (h:x∈Y1 l):x∈l:=(List.takeWhile_sublist _).subset h
theorem aftS_sub {l:List Nat} {x:Nat} (h:x∈Wi l):x∈l:=List.mem_of_mem_drop h
theorem restS_sub {l:List Nat} {x:Nat} (h:x∈X7 l):x∈l:=by
 unfold X7 at h
 split at h
 ·exact List.mem_of_mem_tail h
 ·exact h
theorem restS_len (l:List Nat):(X7 l).length≤l.length:=by
 unfold X7
 split
 ·rw[List.length_tail]; omega
 ·exact Nat.le_refl _
theorem befS_len (l:List Nat):(Y1 l).length≤l.length:=(List.takeWhile_sublist _).length_le
theorem aftS_len (l:List Nat):(Wi l).length≤l.length:=by unfold Wi; rw[List.length_drop]; omega
theorem K7 {l:List Nat} (h:K0 l=true):∀x∈l,48≤x∧x≤57:=by
 unfold K0 at h
 rw[Bool.and_eq_true,List.all_eq_true]at h
 intro x hx
 have:=h.1 x hx
 unfold isDig at this
 simpa using this
theorem valD_cons (x:Nat) (l:List Nat):Yd (x::l)=(x-48)*10^l.length+Yd l:=by
 have:=Qio [x] l
 simpa [Yd] using this
theorem Qic {l:List Nat} (h:K0 l=true) (h0:l≠[48]):0<Yd l:=by
 have hd:=K7 h
 unfold K0 at h
 rw[Bool.and_eq_true,Bool.or_eq_true,Bool.and_eq_true,decide_eq_true_eq,decide_eq_true_eq,decide_eq_true_eq]at h
 rcases h.2 with h1|⟨h1,h2⟩
 ·exact absurd h1 h0
 ·cases l with
  |nil=>exact absurd rfl h1
  |cons x l=>
   have:=hd x (by simp)
   have h3:x≠48:=by simpa using h2
   rw[valD_cons]
   have h4:0<(x-48)*10^l.length:=Nat.mul_pos (by omega) (Nat.pow_pos (by omega))
   omega
theorem strOf_ne {l r:List Nat} (hl:Wf 256 l) (hr:Wf 256 r) (h:¬l=r):¬(Qp l).toList=(Qp r).toList:=fun e=>h (Qfp hl hr e)
theorem textB_wf (n:Nat):Wf 256 (Xc n):=by
 unfold Xc
 split
 ·intro x hx; simp at hx; omega
 ·exact decB_wf _
theorem textR_wf (q:Rat):Wf 256 (Y4 q):=by
 intro x hx
 unfold Y4 at hx
 rcases List.mem_append.1 hx with h|h
 ·split at h
  ·simp at h; omega
  ·simp at h
 ·rcases List.mem_append.1 h with h|h
  ·exact textB_wf _ x h
  ·split at h
   ·simp at h
   ·rcases List.mem_cons.1 h with h|h
    ·omega
    ·exact textB_wf _ x h
set_option maxHeartbeats 1000000 in
theorem parse_f0 (w:World) (l:List Nat) (hw:Wf 256 l) (hl:l.length≤4096) (hm:¬47∈X7 l) (h1:K0 (Y1 (X7 l))=true) (h2:K0 [49]=true) (h3:¬ [49]=[48]) (h4:Y4 (Yf (negS l) (Yd (Y1 (X7 l))) (Yd [49]))=l):Calls Tryz.prog 32 #[.string (Qp l)] w (RetRE w (Yf (negS l) (Yd (Y1 (X7 l))) (Yd [49])) 0):=by
 have hwr:Wf 256 (X7 l):=fun x hx=>hw x (restS_sub hx)
 have hwn:Wf 256 (Y1 (X7 l)):=fun x hx=>hwr x (befS_sub hx)
 have hwd:Wf 256 [49]:=by intro x hx; simp at hx; omega
 have hlr:=restS_len l
 have hln:=befS_len (X7 l)
 have hld:[49].length≤4096:=by simp
 have hs:=Xs l
 have hl0:(l.length:Int)≤4096:=by omega
 have hc1:=fun w=>Qfh w l hw
 have hc2:=fun w=>cut_slash w (X7 l) hwr (by omega)
 simp only[decide_eq_false hm]at hc2
 have hc3:=fun w=>Qdy w (Y1 (X7 l)) hwn (by omega)
 rw[h1]at hc3
 have hc4:∀w,Calls Tryz.prog 74 #[.string ⟨#[49]⟩] w (Jc w (.bool true)):=fun w=>by have h:=Qdy w [49] hwd (by omega); rw[h2]at h; exact h
 have hc5:=fun w=>Qgf w (Y1 (X7 l)) (K7 h1) (by omega)
 have hc6:∀w,Calls Tryz.prog 75 #[.string ⟨#[49]⟩] w (J6 .u64 Qa w (Yd [49])):=fun w=>Qgf w [49] (K7 h2) (by omega)
 have HV:=bx (Qic h2 h3)
 have HB1:Bx (Bd 16384 (Yd (Y1 (X7 l)))):=bx ((Bd.ten (Qc8 (K7 h1))).mono (by omega))
 have HB2:Bx (Bd 16384 (Yd [49])):=bx ((Bd.ten (Qc8 (K7 h2))).mono (by omega))
 have hbq:=Un (neg:=negS l) HV.out HB1.out HB2.out
 have hwt:=textR_wf (Yf (negS l) (Yd (Y1 (X7 l))) (Yd [49]))
 generalize hq:(Yf (negS l) (Yd (Y1 (X7 l))) (Yd [49]))=q at *
 have HQ:=bx hq
 have HBQ:=bx hbq
 have ht:((Qp (Y4 q)).toList==(Qp l).toList)=true:=beq_iff_eq.2 (by rw[h4])
 clear hwt hq hbq h4
 have HC1:=bx hc1
 have HC2:=bx hc2
 have HC3:=bx hc3
 have HC4:=bx hc4
 have HC5:=bx hc5
 have HC6:=bx hc6
 clear hw hwr hwn hwd hlr hln hld hl hm hc1 hc2 hc3 h1 hc4 h2 hc5 hc6 h3
 go_enter Tryz.func32,Tryz.ntmps32
 go_wp2_with fail
 obtain⟨w1,e1,o1,b1,s1⟩:=Js w (.bool false) (.slice none 0 0) (.slice none 0 0) 38
 rw[e1]
 clear e1 s1
 have hz:HeldR w w.heap.size 38 [] w1:=⟨b1,Nat.le_refl _,by simp,_,_,_,o1,Y3 _,Xi _ _ _,Xi _ _ _⟩
 refine Calls.mono (HC1.out _) ?_
 rintro e w' ⟨rfl,rfl⟩
 go_wp2_with fail
 refine Calls.mono (HC2.out _) ?_
 rintro e w2 ⟨rfl,hb2⟩
 have hz:=HeldR.call (And.intro hz trivial) hb2
 go_wp2_with fail
 refine Calls.mono (HC3.out _) ?_
 rintro e w3 ⟨rfl,hb3⟩
 have hz:=HeldR.call (And.intro hz trivial) hb3
 go_wp2_with fail
 refine Calls.mono (HC4.out _) ?_
 rintro e w4 ⟨rfl,hb4⟩
 have hz:=HeldR.call (And.intro hz trivial) hb4
 go_wp2_with fail
 refine Calls.mono (HC5.out _) ?_
 rintro e w5 ⟨vn,rfl,hn,hb5⟩
 have hz:=HeldR.call (And.intro hz trivial) hb5
 go_wp2_with fail
 refine Calls.mono (HC6.out _) ?_
 rintro e w6 ⟨vd,rfl,hd,hb6⟩
 have hn:=hn.below hb6
 have hz:=HeldR.call (And.intro hz trivial) hb6
 go_wp2_with fail
 refine Calls.mono (Wa w6 _ _ _ _ _ hn hd HV.out HB1.out HB2.out (by omega)) ?_
 rw[HQ.out]
 rintro e w7 ⟨vr,rfl,hr,hb7⟩
 have hz:=HeldR.call (And.intro hz trivial) hb7
 obtain⟨vrn,vrd,rfl,hrn,hrd⟩:=id hr
 obtain⟨Ar1,cr1,rfl,_⟩:=id hrn
 obtain⟨Ar2,cr2,rfl,_⟩:=id hrd
 go_wp2_with fail
 obtain⟨w8,e8,o8,b8,s8⟩:=Js w7 (.bool (decide (q.num<0))) (.slice Ar1 (digs Qa q.num.natAbs).length cr1) (.slice Ar2 (digs Qa (Qo q.den)).length cr2) 38
 rw[e8]
 clear e8 s8
 have hz:=HeldR.call (And.intro hz trivial) b8
 refine Calls.mono (Qdm w8 _ q (hr.below b8) HBQ.out (by omega)) ?_
 rintro e w9 ⟨rfl,hb9⟩
 have hz:=HeldR.call (And.intro hz trivial) hb9
 have o9:=o8.gone hb9
 obtain⟨k0,k1,k2,k3,k4,k5⟩:=hz.cells
 have k6:=o9.c0
 have k7:=o9.c1
 have k8:=o9.c2
 have hrn:=(hrn.below b8).below hb9
 have hrd:=(hrd.below b8).below hb9
 go_wp2
 obtain⟨wf,HW,f0,f1,f2,hfin⟩:=hz.fin rfl hrn hrd
 rw[HW]
 (try simp only[Exit.inBlock,Exit.then])
 refine bodyPost_ret (by simp[results,Tryz.results32,go_sem,f0,f1,f2]; try rfl) rfl ?_
 exact RetRE.of hfin 0

set_option maxHeartbeats 1000000 in
theorem parse_f1 (w:World) (l:List Nat) (hw:Wf 256 l) (hl:l.length≤4096) (hm:47∈X7 l) (h1:K0 (Y1 (X7 l))=true) (h2:K0 (Wi (X7 l))=true) (h3:¬(Wi (X7 l))=[48]) (h4:Y4 (Yf (negS l) (Yd (Y1 (X7 l))) (Yd (Wi (X7 l))))=l):Calls Tryz.prog 32 #[.string (Qp l)] w (RetRE w (Yf (negS l) (Yd (Y1 (X7 l))) (Yd (Wi (X7 l)))) 0):=by
 have hwr:Wf 256 (X7 l):=fun x hx=>hw x (restS_sub hx)
 have hwn:Wf 256 (Y1 (X7 l)):=fun x hx=>hwr x (befS_sub hx)
 have hwd:Wf 256 (Wi (X7 l)):=fun x hx=>hwr x (aftS_sub hx)
 have hlr:=restS_len l
 have hln:=befS_len (X7 l)
 have hld:(Wi (X7 l)).length≤4096:=Nat.le_trans (aftS_len _) (by omega)
 have hs:=Xs l
 have hl0:(l.length:Int)≤4096:=by omega
 have hc1:=fun w=>Qfh w l hw
 have hc2:=fun w=>cut_slash w (X7 l) hwr (by omega)
 simp only[decide_eq_true hm]at hc2
 have hc3:=fun w=>Qdy w (Y1 (X7 l)) hwn (by omega)
 rw[h1]at hc3
 have hc4:∀w,Calls Tryz.prog 74 #[.string (Qp (Wi (X7 l)))] w (Jc w (.bool true)):=fun w=>by have h:=Qdy w (Wi (X7 l)) hwd (by omega); rw[h2]at h; exact h
 have hc5:=fun w=>Qgf w (Y1 (X7 l)) (K7 h1) (by omega)
 have hc6:∀w,Calls Tryz.prog 75 #[.string (Qp (Wi (X7 l)))] w (J6 .u64 Qa w (Yd (Wi (X7 l)))):=fun w=>Qgf w (Wi (X7 l)) (K7 h2) (by omega)
 have HV:=bx (Qic h2 h3)
 have HB1:Bx (Bd 16384 (Yd (Y1 (X7 l)))):=bx ((Bd.ten (Qc8 (K7 h1))).mono (by omega))
 have HB2:Bx (Bd 16384 (Yd (Wi (X7 l)))):=bx ((Bd.ten (Qc8 (K7 h2))).mono (by omega))
 have hbq:=Un (neg:=negS l) HV.out HB1.out HB2.out
 have hwt:=textR_wf (Yf (negS l) (Yd (Y1 (X7 l))) (Yd (Wi (X7 l))))
 generalize hq:(Yf (negS l) (Yd (Y1 (X7 l))) (Yd (Wi (X7 l))))=q at *
 have HQ:=bx hq
 have HBQ:=bx hbq
 have ht:((Qp (Y4 q)).toList==(Qp l).toList)=true:=beq_iff_eq.2 (by rw[h4])
 clear hwt hq hbq h4
 have htd:((Qp (Wi (X7 l))).toList==[48])=false:=beq_eq_false_iff_ne.2 (by rw[show([48]:List UInt8)=(Qp [48]).toList by rw[Ku]; rfl]; exact strOf_ne (r:=[48]) hwd (by intro x hx; simp at hx; omega) h3)
 have HC1:=bx hc1
 have HC2:=bx hc2
 have HC3:=bx hc3
 have HC4:=bx hc4
 have HC5:=bx hc5
 have HC6:=bx hc6
 clear hw hwr hwn hwd hlr hln hld hl hm hc1 hc2 hc3 h1 hc4 h2 hc5 hc6 h3
 go_enter Tryz.func32,Tryz.ntmps32
 go_wp2_with fail
 obtain⟨w1,e1,o1,b1,s1⟩:=Js w (.bool false) (.slice none 0 0) (.slice none 0 0) 38
 rw[e1]
 clear e1 s1
 have hz:HeldR w w.heap.size 38 [] w1:=⟨b1,Nat.le_refl _,by simp,_,_,_,o1,Y3 _,Xi _ _ _,Xi _ _ _⟩
 refine Calls.mono (HC1.out _) ?_
 rintro e w' ⟨rfl,rfl⟩
 go_wp2_with fail
 refine Calls.mono (HC2.out _) ?_
 rintro e w2 ⟨rfl,hb2⟩
 have hz:=HeldR.call (And.intro hz trivial) hb2
 go_wp2_with fail
 refine Calls.mono (HC3.out _) ?_
 rintro e w3 ⟨rfl,hb3⟩
 have hz:=HeldR.call (And.intro hz trivial) hb3
 go_wp2_with fail
 refine Calls.mono (HC4.out _) ?_
 rintro e w4 ⟨rfl,hb4⟩
 have hz:=HeldR.call (And.intro hz trivial) hb4
 go_wp2_with fail
 refine Calls.mono (HC5.out _) ?_
 rintro e w5 ⟨vn,rfl,hn,hb5⟩
 have hz:=HeldR.call (And.intro hz trivial) hb5
 go_wp2_with fail
 refine Calls.mono (HC6.out _) ?_
 rintro e w6 ⟨vd,rfl,hd,hb6⟩
 have hn:=hn.below hb6
 have hz:=HeldR.call (And.intro hz trivial) hb6
 go_wp2_with fail
 refine Calls.mono (Wa w6 _ _ _ _ _ hn hd HV.out HB1.out HB2.out (by omega)) ?_
 rw[HQ.out]
 rintro e w7 ⟨vr,rfl,hr,hb7⟩
 have hz:=HeldR.call (And.intro hz trivial) hb7
 obtain⟨vrn,vrd,rfl,hrn,hrd⟩:=id hr
 obtain⟨Ar1,cr1,rfl,_⟩:=id hrn
 obtain⟨Ar2,cr2,rfl,_⟩:=id hrd
 go_wp2_with fail
 obtain⟨w8,e8,o8,b8,s8⟩:=Js w7 (.bool (decide (q.num<0))) (.slice Ar1 (digs Qa q.num.natAbs).length cr1) (.slice Ar2 (digs Qa (Qo q.den)).length cr2) 38
 rw[e8]
 clear e8 s8
 have hz:=HeldR.call (And.intro hz trivial) b8
 refine Calls.mono (Qdm w8 _ q (hr.below b8) HBQ.out (by omega)) ?_
 rintro e w9 ⟨rfl,hb9⟩
 have hz:=HeldR.call (And.intro hz trivial) hb9
 have o9:=o8.gone hb9
 obtain⟨k0,k1,k2,k3,k4,k5⟩:=hz.cells
 have k6:=o9.c0
 have k7:=o9.c1
 have k8:=o9.c2
 have hrn:=(hrn.below b8).below hb9
 have hrd:=(hrd.below b8).below hb9
 go_wp2
 obtain⟨wf,HW,f0,f1,f2,hfin⟩:=hz.fin rfl hrn hrd
 rw[HW]
 (try simp only[Exit.inBlock,Exit.then])
 refine bodyPost_ret (by simp[results,Tryz.results32,go_sem,f0,f1,f2]; try rfl) rfl ?_
 exact RetRE.of hfin 0


theorem parse_ok (w:World) (l:List Nat) (hw:Wf 256 l) (hl:l.length≤4096) (h1:parseOk l=true) (h2:Y4 (parseQ l)=l):Calls Tryz.prog 32 #[.string (Qp l)] w (RetRE w (parseQ l) 0):=by
 unfold parseOk at h1
 rw[Bool.and_eq_true,Bool.and_eq_true,decide_eq_true_eq]at h1
 obtain⟨a,b,c⟩:=h1
 unfold parseQ at h2 ⊢
 by_cases hm:47∈X7 l
 ·have e:denS (X7 l)=Wi (X7 l):=if_pos hm
  rw[e]at b c h2 ⊢
  exact parse_f1 w l hw hl hm a b c h2
 ·have e:denS (X7 l)=[49]:=if_neg hm
  rw[e]at b c h2 ⊢
  exact parse_f0 w l hw hl hm a b c h2
end Wx

namespace Wx
set_option maxRecDepth 100000
open Go Go.RowKit Go.Proofs

def awX:Rat:=newR 2 3
def awY:Rat:=newR 1 6
def awZ:Rat:=parseQ [45,55,47,50]
def awD:Rat:=awX-awY
def awF:Rat:=Qav awZ 0
theorem aw1:parseOk [45,55,47,50]=true:=by decide +kernel
theorem aw2:Y4 awZ=[45,55,47,50]:=by decide +kernel
theorem aw3:Y4 awD=[49,47,50]:=by decide +kernel
theorem aw4:Y4 awF=[45,52]:=by decide +kernel
theorem aw5:Bd 10 awD.num.natAbs∧Bd 10 awD.den:=by unfold Bd; decide +kernel
theorem aw6:Bd 10 awF.num.natAbs∧Bd 10 awF.den:=by unfold Bd; decide +kernel
theorem aw7:Bd 10 awX.num.natAbs∧Bd 10 awX.den:=by unfold Bd; decide +kernel
theorem aw8:Bd 10 awY.num.natAbs∧Bd 10 awY.den:=by unfold Bd; decide +kernel
theorem aw9:Bd 10 awZ.num.natAbs∧Bd 10 awZ.den:=by unfold Bd; decide +kernel

set_option maxHeartbeats 1000000 in
theorem awake_num (w:World):Calls Tryz.prog 7 #[] w (Jc w (.bool true)):=by
 have hc1:∀w,Calls Tryz.prog 31 #[.int .i64 2,.int .i64 3] w (RetRE w awX 0):=fun w=>new_num w 2 3 (by omega) (by omega) (by omega) (by omega) (by omega)
 have hc2:∀w,Calls Tryz.prog 31 #[.int .i64 1,.int .i64 6] w (RetRE w awY 0):=fun w=>new_num w 1 6 (by omega) (by omega) (by omega) (by omega) (by omega)
 have hc3:∀w,Calls Tryz.prog 32 #[.string ⟨#[45,55,47,50]⟩] w (RetRE w awZ 0):=fun w=>parse_ok w [45,55,47,50] (by intro x hx; simp at hx; omega) (by simp) aw1 aw2
 have HC1:=bx hc1
 have HC2:=bx hc2
 have HC3:=bx hc3
 have HB:=bx (And.intro (show BdR 10 awX from aw7) (And.intro (show BdR 10 awY from aw8) (And.intro (show BdR 10 awZ from aw9) (And.intro (show BdR 10 awD from aw5) (show BdR 10 awF from aw6)))))
 have hd1:awX-awY=awD:=rfl
 have hf1:Qav awZ 0=awF:=rfl
 have HD:=bx hd1
 have HF:=bx hf1
 have ht1:((Qp (Y4 awD)).toList==[49,47,50])=true:=by rw[aw3,Ku]; decide
 have ht2:((Qp (Y4 awF)).toList==[45,52])=true:=by rw[aw4,Ku]; decide
 clear hc1 hc2 hc3 hd1 hf1
 generalize awX=x at *
 generalize awY=y at *
 generalize awZ=z at *
 generalize awD=d at *
 generalize awF=f at *
 go_enter Tryz.func7,Tryz.ntmps7
 go_wp2_with fail
 refine Calls.mono (HC1.out _) ?_
 rintro e w1 ⟨vx,rfl,hx,b1⟩
 obtain⟨vxn,vxd,rfl,hxn,hxd⟩:=id hx
 obtain⟨Ax1,cx1,rfl,_⟩:=id hxn
 obtain⟨Ax2,cx2,rfl,_⟩:=id hxd
 go_wp2_with fail
 obtain⟨w2,e2,o2,b2,s2⟩:=Jh w1 [.bool (decide (x.num<0)),.slice Ax1 (digs Qa x.num.natAbs).length cx1,.slice Ax2 (digs Qa (Qo x.den)).length cx2] 38
 rw[e2]
 clear e2
 have B2:=b1.trans (b2.mono b1.size)
 have hx:=hx.below b2
 refine Calls.mono (HC2.out _) ?_
 rintro e w3 ⟨vy,rfl,hy,b3⟩
 obtain⟨vyn,vyd,rfl,hyn,hyd⟩:=id hy
 obtain⟨Ay1,cy1,rfl,_⟩:=id hyn
 obtain⟨Ay2,cy2,rfl,_⟩:=id hyd
 have B3:=B2.trans (b3.mono B2.size)
 go_wp2_with fail
 obtain⟨w4,e4,o4,b4,s4⟩:=Jh w3 [.bool (decide (y.num<0)),.slice Ay1 (digs Qa y.num.natAbs).length cy1,.slice Ay2 (digs Qa (Qo y.den)).length cy2] 38
 rw[e4]
 clear e4
 have B4:=B3.trans (b4.mono B3.size)
 have hx:=(hx.below b3).below b4
 have hy:=hy.below b4
 have o2:=(o2.gone b3).gone b4
 refine Calls.mono (HC3.out _) ?_
 rintro e w5 ⟨vz,rfl,hz,b5⟩
 obtain⟨vzn,vzd,rfl,hzn,hzd⟩:=id hz
 obtain⟨Az1,cz1,rfl,_⟩:=id hzn
 obtain⟨Az2,cz2,rfl,_⟩:=id hzd
 have B5:=B4.trans (b5.mono B4.size)
 obtain⟨w6,e6,o6,b6,s6⟩:=Jh w5 [.bool (decide (z.num<0)),.slice Az1 (digs Qa z.num.natAbs).length cz1,.slice Az2 (digs Qa (Qo z.den)).length cz2] 38
 have B6:=B5.trans (b6.mono B5.size)
 have hx:=(hx.below b5).below b6
 have hy:=(hy.below b5).below b6
 have hz:=hz.below b6
 have o2:=(o2.gone b5).gone b6
 have o4:=(o4.gone b5).gone b6
 have j0:=o2.cell (i:=0) rfl
 have j1:=o2.cell (i:=1) rfl
 have j2:=o2.cell (i:=2) rfl
 have k0:=o4.cell (i:=0) rfl
 have k1:=o4.cell (i:=1) rfl
 have k2:=o4.cell (i:=2) rfl
 have l0:=o6.cell (i:=0) rfl
 have l1:=o6.cell (i:=1) rfl
 have l2:=o6.cell (i:=2) rfl
 go_wp2_with fail
 have hc:=sub_num w6 _ _ x y hx hy HB.out.1 HB.out.2.1 (by omega)
 rw[HD.out]at hc
 refine Calls.mono hc ?_
 clear hc j0 j1 j2 k0 k1 k2 l0 l1 l2
 rintro e w7 ⟨vd,rfl,hd,b7⟩
 have B7:=B6.trans (b7.mono B6.size)
 have hz:=hz.below b7
 have o6:=o6.gone b7
 go_wp2_with fail
 refine Calls.mono (Qdm w7 _ d hd HB.out.2.2.2.1 (by omega)) ?_
 rintro e w8 ⟨rfl,b8⟩
 have B8:=B7.trans (b8.mono B7.size)
 have hz:=hz.below b8
 have o6:=o6.gone b8
 have l0:=o6.cell (i:=0) rfl
 have l1:=o6.cell (i:=1) rfl
 have l2:=o6.cell (i:=2) rfl
 go_wp2_with fail
 have hc:=floor_num w8 _ z hz HB.out.2.2.1 (by omega)
 rw[HF.out]at hc
 refine Calls.mono hc ?_
 clear hc
 rintro e w9 ⟨vf,rfl,hf,b9⟩
 have B9:=B8.trans (b9.mono B8.size)
 go_wp2_with fail
 refine Calls.mono (Qdm w9 _ f hf HB.out.2.2.2.2 (by omega)) ?_
 rintro e wa ⟨rfl,ba⟩
 go_wp2
 go_ret
 exact⟨rfl,B9.trans (ba.mono B9.size)⟩
end Wx

namespace Wx
open Go Go.RowKit

theorem wp_joinT {P:Program} {Q:Exit→Act→World→Prop} {K:Act→World→Prop} {a:Act} {w:World} {x:Code} (J:Act→World→Prop) (h1:x.wp P (Exit.then J Q) a w) (h2:∀a w,J a w→K a w):x.wp P (Exit.then K Q) a w:=
 Go.wp_mono h1 fun e a w h=>by
  cases e with
  |normal=>exact h2 a w h
  |exit n=>exact h
  |goto l=>exact h
  |ret=>exact h
  |panic c=>exact h
  |outgrown=>exact h
end Wx

namespace Wx
open Go Go.RowKit

section
variable {P:Program} {c:Cfg} {V:List Vr} {G:List Ent} {a:Act} {w:World} {o:Oper}
def singB (o:Oper) (N:Nat) (nv:List Vr) (ne:List Ent) (V1:List Vr) (G1:List Ent):Bool:=o.guard.isNone&&(Ul nv [] ne&&wfB N [o] V1 [] G1)
theorem Jw {ops:Array Oper} {V1 V2:List Vr} {G1 G2:List Ent} (h:Inv c V [] G Qf a w) (nv:List Vr) (ne:List Ent) (hV:MkV nv V V1) (hG:MkE ne G G1) (hb:singB o c.N nv ne V1 G1=true)
  (hs:Q0 P #[o] [0] c V1 [] G1 0 o) (kV:KeepV V1 V2) (kG:KeepE G1 G2):DoesG P ops o a w (Inv c V2 [] G2 Qf):=by
 unfold singB Ul at hb
 simp only[Bool.and_eq_true]at hb
 obtain⟨hg,⟨hn1,hn2,hn3⟩,hwf⟩:=hb
 obtain⟨kv,e1⟩:=Qdf kV.sub
 obtain⟨kg,e2⟩:=Qdf kG.sub
 exact single h (by cases hgg:o.guard with|none=>rfl|some x=>rw[hgg]at hg; cases hg) (hV.strip hn1) rfl (hG.strip hn3) hwf hs kv kg e1 e2
theorem U2 {ops:Array Oper} {Λ:Type} {C:Λ→Prop} {J J':Λ→Act→World→Prop} (h:∀l,C l→∀a w,J l a w→DoesG P ops o a w (J' l)):∀a w,(∃l,C l∧J l a w)→DoesG P ops o a w (fun a w=>∃l,C l∧J' l a w):=chain_ex h fun h hm=>h.mono hm
theorem DoesG.exC {ops:Array Oper} {Λ:Type} {C C':Λ→Prop} {J:Λ→Act→World→Prop} (h:DoesG P ops o a w (fun a w=>∃l,C l∧J l a w)) (hc:∀l,C l→C' l):DoesG P ops o a w (fun a w=>∃l,C' l∧J l a w):=h.mono fun _ _ ⟨l,h1,h2⟩=>⟨l,hc l h1,h2⟩
end
end Wx
