import Derived.Test.YtpiniclogfefjaaGreatJMatrices37
import Derived.Test.YtpiniclogfefjaaGreatJMatrices39
namespace Wx
set_option maxRecDepth 100000
open Go Go.RowKit Go.Proofs
set_option linter.unusedVariables false

theorem K5 {A:List (List Rat)} (hA:A.length≤1000000):∀(M:Nat→Nat→Prop) (w:World) (v0:Value),Mid M w→Box M (fun w=>(Qr Qg A) w v0) w→Calls Tryz.prog 11 #[v0] w (RetB M (pI (chk A)) w):=by
 intro M w0 v0 hM hv0
 refine Q5 (N:=44) Tryz.func11 rfl rfl rfl hM (show EntsA M w0 [v0] [Ez 0 (Qr Qg A)]from⟨⟨rfl,_,rfl,hv0⟩,trivial⟩) fun a hI=>?_
 refine Qo hI [Ec 0 2 (pI 0)] [0] (.k .z) ?_ (.kk .z) fun a w hI=>?_
 ·exact⟨Qc (.const _) (.here 1 rfl),trivial⟩
 refine wp_seq ?_
 refine Qo hI [Ec 0 4 (Qr Qg A),Ec 1 5 (pI (A.length:Int)),Ec 2 6 (pB (decide ((A.length:Int)<(1:Int)))),Ec 3 7 (pB (decide ((A.length:Int)<(1:Int)))),Ec 4 8 (X4 ((decide ((A.length:Int)<(1:Int)))=false) (Qr Qg A)),Ec 5 9 (X4 ((decide ((A.length:Int)<(1:Int)))=false) (pI (A.length:Int))),Ec 6 10 (X4 ((decide ((A.length:Int)<(1:Int)))=false) (pB (decide ((A.length:Int)>(8:Int))))),Ec 7 11 (pB ((decide ((A.length:Int)<(1:Int)))||(decide ((A.length:Int)>(8:Int)))))] [0,1,3,7,15,31,63,127] (.kk .z) ?_ (.kkdd (.dddd (.dk .z))) fun a w hI=>?_
 ·exact⟨Qa (.tp 0 rfl) (.here 2 rfl),Q4 (.tp 2 rfl) (Xr).under (.here 3 rfl),Qk (v:=.bool (decide ((A.length:Int)<(1:Int)))) (.tp 3 rfl) (.const _) (fun _=>rfl) (.here 4 rfl),Qa (.tp 4 rfl) (.here 5 rfl),Xd 5 rfl rfl (fun hc=>Qa (.tp 0 rfl) (.sel hc 6 rfl)) 6 rfl,Xd 5 rfl rfl (fun hc=>Q4 (.sel (.tp 6 rfl) hc) (Xr).under (.sel hc 7 rfl)) 7 rfl,Xd 5 rfl rfl (fun hc=>Qk (v:=.bool (decide ((A.length:Int)>(8:Int)))) (.sel (.tp 7 rfl) hc) (.const _) (fun _=>rfl) (.sel hc 8 rfl)) 8 rfl,Yl (.tp 5 rfl) (fun h=>.imp (.const _) fun _ _ e=>by rw[h]; exact e) (fun h=>.imp (.sel (.tp 8 rfl) (h)) fun _ _ e=>by rw[h]; exact e) (.here 9 rfl),trivial⟩
 refine Xm hI 2 rfl (fun ht=>?_) (fun ht=>?_)
 ·have t1:=ht
  refine Qo hI [Ec 0 2 (pI 4)] [0] (.k (.t 0 (.k .z))) ?_ (.kddk .z) fun a w hI=>?_
  ·exact⟨Qc (.const _) (.here 3 rfl),trivial⟩
  refine wp_ret ?_
  refine Xh ?_
  exact Zu hI rfl (.imp (.tmp 1 rfl) (Xc ((wr_num t1).symm)))
 ·have t2:=ht
  refine wp_skip ?_
  refine Qf ?_
  refine wp_seq ?_
  refine Qo hI [Ec 0 3 (pI 0)] [0] (.kkk .z) ?_ (.kkdk .z) fun a w hI=>?_
  ·exact⟨Qc (.const _) (.here 3 rfl),trivial⟩
  refine wp_block ?_
  refine Xz (fun(k:Nat) a w=>(k≤A.length∧∀q,q<k→rowBad A q=false)∧Inv ⟨44,w0,M,fun _=>False⟩ [] [] [Ez 0 (Qr Qg A),Ez 3 (pI (k:Int))] Qi a w) (fun(k:Nat)=>A.length-k) (0) ⟨⟨Nat.zero_le _,fun q hq=>by omega⟩,(hI.conv trivial ⟨Qp 0 rfl,⟨rfl,rfl,2,_,rfl,(Xc (by omega))⟩,trivial⟩)⟩ ?_
  intro k a w hIk
  obtain⟨hp,hI⟩:=hIk
  refine wp_seq ?_
  refine Qo hI [Ec 0 12 (pI (k:Int)),Ec 1 13 (Qr Qg A),Ec 2 14 (pI (A.length:Int)),Ec 3 15 (pB (decide ((k:Int)<(A.length:Int))))] [0,1,3,7] (.kk .z) ?_ (.kkdd (.dk .z)) fun a w hI=>?_
  ·exact⟨Qa (.tp 1 rfl) (.here 2 rfl),Qa (.tp 0 rfl) (.here 3 rfl),Q4 (.tp 3 rfl) (Xr).under (.here 4 rfl),Qk (v:=.bool (decide ((k:Int)<(A.length:Int)))) (.tp 2 rfl) (.tp 4 rfl) (fun _=>rfl) (.here 5 rfl),trivial⟩
  refine Xm hI 2 rfl (fun ht=>?_) (fun ht=>?_)
  ·have t3:=of_decide_eq_true ht
   refine wp_skip ?_
   refine Qf ?_
   refine wp_seq ?_
   refine wp_block ?_
   refine seq_D0 hI [Ec 0 18 (Qr Qg A),Ec 1 19 (pI (k:Int)),Ec 2 20 (Ye 1 false (Qg (A.getD k []))),Ec 3 21 (Qg (A.getD k [])),Ec 4 22 (pI ((A.getD k []).length:Int)),Ec 5 23 (pB (decide (((A.getD k []).length:Int)<(1:Int)))),Ec 6 24 (pB (decide (((A.getD k []).length:Int)<(1:Int)))),Ec 7 25 (X4 ((decide (((A.getD k []).length:Int)<(1:Int)))=false) (Qr Qg A)),Ec 8 26 (X4 ((decide (((A.getD k []).length:Int)<(1:Int)))=false) (pI (k:Int))),Ec 9 27 (X4 ((decide (((A.getD k []).length:Int)<(1:Int)))=false) (Ye 1 false (Qg (A.getD k [])))),Ec 10 28 (X4 ((decide (((A.getD k []).length:Int)<(1:Int)))=false) (Qg (A.getD k []))),Ec 11 29 (X4 ((decide (((A.getD k []).length:Int)<(1:Int)))=false) (pI ((A.getD k []).length:Int))),Ec 12 30 (X4 ((decide (((A.getD k []).length:Int)<(1:Int)))=false) (pB (decide (((A.getD k []).length:Int)>(8:Int))))),Ec 13 31 (pB ((decide (((A.getD k []).length:Int)<(1:Int)))||(decide (((A.getD k []).length:Int)>(8:Int))))),Ec 14 32 (pB ((decide (((A.getD k []).length:Int)<(1:Int)))||(decide (((A.getD k []).length:Int)>(8:Int))))),Ec 15 33 (X4 (((decide (((A.getD k []).length:Int)<(1:Int)))||(decide (((A.getD k []).length:Int)>(8:Int))))=false) (Qr Qg A)),Ec 16 34 (X4 (((decide (((A.getD k []).length:Int)<(1:Int)))||(decide (((A.getD k []).length:Int)>(8:Int))))=false) (pI (k:Int))),Ec 17 35 (X4 (((decide (((A.getD k []).length:Int)<(1:Int)))||(decide (((A.getD k []).length:Int)>(8:Int))))=false) (Ye 1 false (Qg (A.getD k [])))),Ec 18 36 (X4 (((decide (((A.getD k []).length:Int)<(1:Int)))||(decide (((A.getD k []).length:Int)>(8:Int))))=false) (Qg (A.getD k []))),Ec 19 37 (X4 (((decide (((A.getD k []).length:Int)<(1:Int)))||(decide (((A.getD k []).length:Int)>(8:Int))))=false) (pI ((A.getD k []).length:Int))),Ec 20 38 (X4 (((decide (((A.getD k []).length:Int)<(1:Int)))||(decide (((A.getD k []).length:Int)>(8:Int))))=false) (Qr Qg A)),Ec 21 39 (X4 (((decide (((A.getD k []).length:Int)<(1:Int)))||(decide (((A.getD k []).length:Int)>(8:Int))))=false) (Ye 1 false (Qg (A.getD 0 [])))),Ec 22 40 (X4 (((decide (((A.getD k []).length:Int)<(1:Int)))||(decide (((A.getD k []).length:Int)>(8:Int))))=false) (Qg (A.getD 0 []))),Ec 23 41 (X4 (((decide (((A.getD k []).length:Int)<(1:Int)))||(decide (((A.getD k []).length:Int)>(8:Int))))=false) (pI ((A.getD 0 []).length:Int))),Ec 24 42 (X4 (((decide (((A.getD k []).length:Int)<(1:Int)))||(decide (((A.getD k []).length:Int)>(8:Int))))=false) (pB (((A.getD k []).length:Int) != ((A.getD 0 []).length:Int)))),Ec 25 43 (pB (((decide (((A.getD k []).length:Int)<(1:Int)))||(decide (((A.getD k []).length:Int)>(8:Int))))||(((A.getD k []).length:Int) != ((A.getD 0 []).length:Int))))] [0,0,3,7,15,31,63,127,127,511,1023,2047,4095,8191,16383,32767,32767,131071,262143,524287,32767,1081343,3178495,7372799,16777215,33554431] (.kkk .z) ?_ (.kkdd (.dddd (.ddkk (.kkkk (.ddkk (.k8 (.k .z))))))) fun a w hI=>?_
   ·exact⟨Qa (.tp 0 rfl) (.here 3 rfl),Qa (.tp 1 rfl) (.here 4 rfl),Qw (.tp 3 rfl) (.tp 4 rfl) Xr (.at_ 5 _ _ rfl (by rw[Int.toNat_natCast]; exact fun _ _ h=>h)),Q7 (.tp 5 rfl) J5 ((Zp _)) (.here 6 rfl),Q4 (.tp 6 rfl) (Zm).under (.here 7 rfl),Qk (v:=.bool (decide (((A.getD k []).length:Int)<(1:Int)))) (.tp 7 rfl) (.const _) (fun _=>rfl) (.here 8 rfl),Qa (.tp 8 rfl) (.here 9 rfl),Xd 9 rfl rfl (fun hc=>Qa (.tp 0 rfl) (.sel hc 10 rfl)) 10 rfl,Xd 9 rfl rfl (fun hc=>Qa (.tp 1 rfl) (.sel hc 11 rfl)) 11 rfl,Xd 9 rfl rfl (fun hc=>Qw (.sel (.tp 10 rfl) hc) (.sel (.tp 11 rfl) hc) Xr (.sel hc 12 rfl)) 12 rfl,Xd 9 rfl rfl (fun hc=>Q7 (.sel (.tp 12 rfl) hc) J5 ((Zp _)) (.sel hc 13 rfl)) 13 rfl,Xd 9 rfl rfl (fun hc=>Q4 (.sel (.tp 13 rfl) hc) (Zm).under (.sel hc 14 rfl)) 14 rfl,Xd 9 rfl rfl (fun hc=>Qk (v:=.bool (decide (((A.getD k []).length:Int)>(8:Int)))) (.sel (.tp 14 rfl) hc) (.const _) (fun _=>rfl) (.sel hc 15 rfl)) 15 rfl,Yl (.tp 9 rfl) (fun h=>.imp (.const _) fun _ _ e=>by rw[h]; exact e) (fun h=>.imp (.sel (.tp 15 rfl) (h)) fun _ _ e=>by rw[h]; exact e) (.here 16 rfl),Qa (.tp 16 rfl) (.here 17 rfl),Xd 17 rfl rfl (fun hc=>Qa (.tp 0 rfl) (.sel hc 18 rfl)) 18 rfl,Xd 17 rfl rfl (fun hc=>Qa (.tp 1 rfl) (.sel hc 19 rfl)) 19 rfl,Xd 17 rfl rfl (fun hc=>Qw (.sel (.tp 18 rfl) hc) (.sel (.tp 19 rfl) hc) Xr (.sel hc 20 rfl)) 20 rfl,Xd 17 rfl rfl (fun hc=>Q7 (.sel (.tp 20 rfl) hc) J5 ((Zp _)) (.sel hc 21 rfl)) 21 rfl,Xd 17 rfl rfl (fun hc=>Q4 (.sel (.tp 21 rfl) hc) (Zm).under (.sel hc 22 rfl)) 22 rfl,Xd 17 rfl rfl (fun hc=>Qa (.tp 0 rfl) (.sel hc 23 rfl)) 23 rfl,Xd 17 rfl rfl (fun hc=>Qw (.sel (.tp 23 rfl) hc) (.const _) Xr (.sel hc 24 rfl)) 24 rfl,Xd 17 rfl rfl (fun hc=>Q7 (.sel (.tp 24 rfl) hc) J5 ((Zp _)) (.sel hc 25 rfl)) 25 rfl,Xd 17 rfl rfl (fun hc=>Q4 (.sel (.tp 25 rfl) hc) (Zm).under (.sel hc 26 rfl)) 26 rfl,Xd 17 rfl rfl (fun hc=>Qk (v:=.bool ((((A.getD k []).length:Int) != ((A.getD 0 []).length:Int)))) (.sel (.tp 22 rfl) hc) (.sel (.tp 26 rfl) hc) (fun _=>rfl) (.sel hc 27 rfl)) 27 rfl,Yl (.tp 17 rfl) (fun h=>.imp (.const _) fun _ _ e=>by rw[h]; exact e) (fun h=>.imp (.sel (.tp 27 rfl) (h)) fun _ _ e=>by rw[h]; exact e) (.here 28 rfl),trivial⟩
   refine Xm hI 18 rfl (fun ht=>?_) (fun ht=>?_)
   ·have t4:=ht
    refine Qo hI [Ec 0 2 (pI 4)] [0] (.k8 (.k8 (.kkk .z))) ?_ (.k8 (.k8 (.kkdk .z))) fun a w hI=>?_
    ·exact⟨Qc (.const _) (.here 19 rfl),trivial⟩
    refine wp_ret ?_
    refine Je ?_
    refine Xh ?_
    refine Xh ?_
    refine Je ?_
    refine Xh ?_
    exact Zu hI rfl (.imp (.tmp 18 rfl) (Xc ((wr_row (k:=k) (by omega) t4).symm)))
   ·have t5:=ht
    refine wp_skip ?_
    refine Yf ?_
    refine Qf ?_
    refine sem_T0 hI [Ec 0 16 (pI (k:Int)),Ec 1 17 (pI ((k:Int)+(1:Int))),Ec 2 3 (pI ((k:Int)+(1:Int)))] [0,1,3] (.k (.t 2 (.k8 (.k8 (.k .z))))) ?_ (.kdkk (.k8 (.kkkk (.kkdd (.dk .z))))) fun a w hI=>?_
    ·exact⟨Qa (.tp 1 rfl) (.here 19 rfl),Qk (v:=.int .i64 (IntKind.i64.wrap ((k:Int)+(1:Int)))) (.tp 19 rfl) (.const _) (fun _=>rfl) (.at_ 20 _ _ rfl (X8 (by omega))),Qc (.tp 20 rfl) (.here 21 rfl),trivial⟩
    refine Qf ?_
    exact⟨k+1,⟨⟨by omega,fun q hq=>by rcases Nat.lt_or_ge q k with h|h; exact hp.2 q h; rw[show q=k by omega]; exact t5⟩,(hI.conv trivial ⟨Qp 0 rfl,⟨rfl,rfl,17,_,rfl,(Xc (by omega))⟩,trivial⟩)⟩,(show A.length-(k+1)<A.length-k by omega)⟩
  ·have t6:=of_decide_eq_false ht
   refine wp_exit ?_
   refine Qy ?_
   refine Qy ?_
   refine Xv ?_
   refine Qf ?_
   refine Qo hI [Ec 0 2 (pI 0)] [0] (.kkk .z) ?_ (.dddk .z) fun a w hI=>?_
   ·exact⟨Qc (.const _) (.here 3 rfl),trivial⟩
   refine wp_ret ?_
   exact Zu hI rfl (.imp (.tmp 0 rfl) (Xc ((wr_ok t2 (fun i hi=>hp.2 i (by omega))).symm)))
theorem cn_wrongSquare {A:List (List Rat)} (hA:A.length≤1000000) (hR:Right A):∀(M:Nat→Nat→Prop) (w:World) (v0:Value),Mid M w→Box M (fun w=>(Qr Qg A) w v0) w→Calls Tryz.prog 42 #[v0] w (RetB M (pI (Kv A)) w):=by
 intro M w0 v0 hM hv0
 have hr:=hR.rows
 refine Q5 (N:=16) Tryz.func42 rfl rfl rfl hM (show EntsA M w0 [v0] [Ez 0 (Qr Qg A)]from⟨⟨rfl,_,rfl,hv0⟩,trivial⟩) fun a hI=>?_
 refine Qo hI [Ec 0 2 (pI 0)] [0] (.k .z) ?_ (.kk .z) fun a w hI=>?_
 ·exact⟨Qc (.const _) (.here 1 rfl),trivial⟩
 refine wp_seq ?_
 refine Qo hI [Ec 0 4 (Qr Qg A),Ec 1 5 (pI 0),Ec 2 3 (pI 0)] [0,1,3] (.kk .z) ?_ (.kkdd (.k .z)) fun a w hI=>?_
 ·exact⟨Qa (.tp 0 rfl) (.here 2 rfl),Q6 (fun _ _=>by kernel_rfl) (.tp 2 rfl) (.here 3 rfl) ((by have h:=K5 hA; rw[Up hR]at h; exact h)),Qc (.tp 3 rfl) (.here 4 rfl),trivial⟩
 refine Qo hI [Ec 0 6 (pI 0),Ec 1 7 (pB false)] [0,1] (.kkk .z) ?_ (.kkkd (.k .z)) fun a w hI=>?_
 ·exact⟨Qa (.tp 2 rfl) (.here 3 rfl),Qk (v:=.bool (false)) (.tp 3 rfl) (.const _) (fun _=>rfl) (.here 4 rfl),trivial⟩
 refine Yk hI 3 rfl ?_
 refine wp_skip ?_
 refine Qf ?_
 refine wp_seq ?_
 refine Qo hI [Ec 0 9 (Qr Qg A),Ec 1 10 (pI (A.length:Int)),Ec 2 11 (Qr Qg A),Ec 3 12 (Ye 1 false (Qg (A.getD 0 []))),Ec 4 13 (Qg (A.getD 0 [])),Ec 5 14 (pI ((A.getD 0 []).length:Int)),Ec 6 15 (pB ((A.length:Int) != ((A.getD 0 []).length:Int)))] [0,1,3,7,15,31,63] (.kkkk .z) ?_ (.dkdd (.dddd (.ddk .z))) fun a w hI=>?_
 ·exact⟨Qa (.tp 0 rfl) (.here 4 rfl),Q4 (.tp 4 rfl) (Xr).under (.here 5 rfl),Qa (.tp 0 rfl) (.here 6 rfl),Qw (.tp 6 rfl) (.const _) Xr (.here 7 rfl),Q7 (.tp 7 rfl) J5 ((Zp _)) (.here 8 rfl),Q4 (.tp 8 rfl) (Zm).under (.here 9 rfl),Qk (v:=.bool (((A.length:Int) != ((A.getD 0 []).length:Int)))) (.tp 5 rfl) (.tp 9 rfl) (fun _=>rfl) (.here 10 rfl),trivial⟩
 refine Xm hI 1 rfl (fun ht=>?_) (fun ht=>?_)
 ·have t1:=ht
  refine Qo hI [Ec 0 2 (pI 4)] [0] (.t 0 (.k .z)) ?_ (.ddk .z) fun a w hI=>?_
  ·exact⟨Qc (.const _) (.here 2 rfl),trivial⟩
  refine wp_ret ?_
  refine Xh ?_
  exact Zu hI rfl (.imp (.tmp 0 rfl) (Xc ((Qa4 fun h=>by have:=h.2; simp[this]at t1).symm)))
 ·have t2:=ht
  refine wp_skip ?_
  refine Qf ?_
  refine Qo hI [Ec 0 2 (pI 0)] [0] (.t 0 (.k .z)) ?_ (.ddk .z) fun a w hI=>?_
  ·exact⟨Qc (.const _) (.here 2 rfl),trivial⟩
  refine wp_ret ?_
  exact Zu hI rfl (.imp (.tmp 0 rfl) (Xc ((Qa5 hR (by have:=bne_eq_false_iff_eq.1 t2; omega)).symm)))
theorem Qfi {A:List (List Rat)} (hA:A.length≤1000000) (hR:¬Right A):∀(M:Nat→Nat→Prop) (w:World) (v0:Value),Mid M w→Box M (fun w=>(Qr Qg A) w v0) w→Calls Tryz.prog 42 #[v0] w (RetB M (pI (Kv A)) w):=by
 intro M w0 v0 hM hv0
 refine Q5 (N:=16) Tryz.func42 rfl rfl rfl hM (show EntsA M w0 [v0] [Ez 0 (Qr Qg A)]from⟨⟨rfl,_,rfl,hv0⟩,trivial⟩) fun a hI=>?_
 refine Qo hI [Ec 0 2 (pI 0)] [0] (.k .z) ?_ (.kk .z) fun a w hI=>?_
 ·exact⟨Qc (.const _) (.here 1 rfl),trivial⟩
 refine wp_seq ?_
 refine Qo hI [Ec 0 4 (Qr Qg A),Ec 1 5 (pI 4),Ec 2 3 (pI 4)] [0,1,3] (.kk .z) ?_ (.kkdd (.k .z)) fun a w hI=>?_
 ·exact⟨Qa (.tp 0 rfl) (.here 2 rfl),Q6 (fun _ _=>by kernel_rfl) (.tp 2 rfl) (.here 3 rfl) ((by have h:=K5 hA; rw[Qbh hR]at h; exact h)),Qc (.tp 3 rfl) (.here 4 rfl),trivial⟩
 refine Qo hI [Ec 0 6 (pI 4),Ec 1 7 (pB true)] [0,1] (.kkk .z) ?_ (.kkkd (.k .z)) fun a w hI=>?_
 ·exact⟨Qa (.tp 2 rfl) (.here 3 rfl),Qk (v:=.bool (true)) (.tp 3 rfl) (.const _) (fun _=>rfl) (.here 4 rfl),trivial⟩
 refine Zk hI 3 rfl ?_
 refine Qo hI [Ec 0 8 (pI 4),Ec 1 2 (pI 4)] [0,1] (.k (.t 1 (.kk .z))) ?_ (.kddd (.dk .z)) fun a w hI=>?_
 ·exact⟨Qa (.tp 2 rfl) (.here 4 rfl),Qc (.tp 4 rfl) (.here 5 rfl),trivial⟩
 refine wp_ret ?_
 refine Xh ?_
 exact Zu hI rfl (.imp (.tmp 1 rfl) (Xc (Qa4 fun h=>hR h.1).symm))
theorem Qcg {A:List (List Rat)} (hA:A.length≤1000000):∀(M:Nat→Nat→Prop) (w:World) (v0:Value),Mid M w→Box M (fun w=>(Qr Qg A) w v0) w→Calls Tryz.prog 42 #[v0] w (RetB M (pI (Kv A)) w):=by
 by_cases h:Right A
 ·exact cn_wrongSquare hA h
 ·exact Qfi hA h
structure GI where
 k:Nat
 R:List (Option RowL)
 H:List Bk
theorem rn_zeros {n m:Nat} (hn:n≤1000000) (hm:m≤1000000):∀(M:Nat→Nat→Prop) (w:World) (v0 v1:Value),Mid M w→Box M (fun w=>(pI (n:Int)) w v0) w→Box M (fun w=>(pI (m:Int)) w v1) w→Calls Tryz.prog 50 #[v0,v1] w (RetO (fun l:GridL=>GridOk 3 true l.g n l.R (Zr m (fun _ _=>Wp 0)) l.H) (GridL.hd n) GridL.H w):=by
 intro M w0 v0 v1 hM hv0 hv1
 refine J1 (N:=33) Tryz.func50 rfl rfl rfl hM (show EntsA M w0 [v0,v1] [Ez 0 (pI (n:Int)),Ez 1 (pI (m:Int))]from⟨⟨rfl,_,rfl,hv0⟩,⟨rfl,_,rfl,hv1⟩,trivial⟩) fun a hI=>?_
 refine Qo hI [Ec 0 4 (Qs ((Value.slice none 0 0)))] [0] (.kk .z) ?_ (.kkk .z) fun a w hI=>?_
 ·exact⟨Qc (.const _) (.here 2 rfl),trivial⟩
 refine Qc7 hI [⟨9,9,some 1,none,.obj,0,0,false,pMade 1 false n (Kp (.slice none 0 0)),[]⟩] [] [Ec 0 8 (pI (n:Int))] .z (.kkk .z) rfl [0,1,3] 2 (by kernel_rfl) ?_ (.k .z) (.kkkd .z) (fun a w hI=>hI.openMade 0 rfl (by kernel_rfl)) (⟨_,exL fun l hC a w hI=>Vj hI [] [Ec 0 5 (Qs (.slice (some ⟨l,0,none⟩) n n))] (.k .z) (.kkkk .z) (by kernel_rfl) (Qc (.tp 0 rfl) (.here 4 rfl)) (.k .z) (.dkkk (.k .z)),
   rfl⟩) ?_
 ·exact⟨Qa (.tp 0 rfl) (.here 3 rfl),Qez (zv:=.slice none 0 0) (z:=[.slice none 0 0]) 0 rfl rfl rfl rfl rfl (by kernel_rfl) (.tp 3 rfl) (.tp 3 rfl) (Xr).under (by kernel_rfl) rfl rfl (by omega) (fun u hu=>by rw[List.mem_singleton.1 hu]; exact J7 _ _ _) (fun _=>rfl) (by omega) (.none (by kernel_rfl)),trivial⟩
 ·rintro a w ⟨g,hC,hI⟩
  have hC:True:=hC
  refine wp_seq ?_
  refine Ql hI [] [Ec 0 6 (pI 0)] [0] (.k .z) (.kkkk .z) ?_ (.k .z) (.kkkk (.k .z)) fun a w hI=>?_
  ·exact⟨Qc (.const _) (.here 4 rfl),trivial⟩
  refine wp_block ?_
  refine Xz (fun(q:GI) a w=>(q.k≤n∧GridOk 3 true g n q.R (partX m q.k (fun _ _=>Wp 0)) q.H)∧Inv ⟨33,w0,M,fun _=>False⟩ [⟨9,9,none,none,.obj,0,0,false,Kl q.H,[]⟩] [] [Ez 0 (pI (n:Int)),Ez 1 (pI (m:Int)),Ez 4 (Qs ((Value.slice none 0 0))),Ez 5 (Qs (.slice (some ⟨g,0,none⟩) n n)),Ez 6 (pI (q.k:Int))] Qi a w) (fun(q:GI)=>n-q.k) (⟨0,List.replicate n none,[⟨g,1,false,List.replicate n (Kp (.slice none 0 0))⟩]⟩) ⟨⟨Nat.zero_le _,(grid_nil 3 true g n).congr fun i _=>part_zero i⟩,(hI.conv ⟨⟨0,_,_,rfl,⟨rfl,rfl,rfl⟩,rfl,fun _=>(fun _ _ h=>h)⟩,trivial⟩ ⟨Qp 0 rfl,Qp 1 rfl,Qp 2 rfl,Qp 3 rfl,⟨rfl,rfl,4,_,rfl,(Xc rfl)⟩,trivial⟩)⟩ ?_
  intro q a w hIk
  obtain⟨⟨hk,hB⟩,hI⟩:=hIk
  refine wp_seq ?_
  refine Ql hI [] [Ec 0 10 (pI (q.k:Int)),Ec 1 11 (pI (n:Int)),Ec 2 12 (pB (decide ((q.k:Int)<(n:Int))))] [0,1,3] (.k .z) (.kkkk (.k .z)) ?_ (.k .z) (.kkkk (.kddk .z)) fun a w hI=>?_
  ·exact⟨Qa (.tp 4 rfl) (.here 5 rfl),Qa (.tp 0 rfl) (.here 6 rfl),Qk (v:=.bool (decide ((q.k:Int)<(n:Int)))) (.tp 5 rfl) (.tp 6 rfl) (fun _=>rfl) (.here 7 rfl),trivial⟩
  refine Xm hI 5 rfl (fun ht=>?_) (fun ht=>?_)
  ·have t1:=of_decide_eq_true ht
   refine wp_skip ?_
   refine Qf ?_
   refine wp_seq ?_
   refine wp_block ?_
   refine Qc7 hI [⟨18,18,some 3,none,.obj,0,0,false,pNew q.H 3 true m W4,[]⟩] [] [Ec 0 15 (Qs (.slice (some ⟨g,0,none⟩) n n)),Ec 1 16 (pI (q.k:Int)),Ec 2 17 (pI (m:Int))] (.u (some 3) [] .z) (.kkkk (.kk .z)) rfl [0,1,3,7,15,31] 4 (by kernel_rfl) ?_ (.d (.k .z)) (.kkkk (.kdkk (.d .z))) (fun a w hI=>hI.openNew 0 rfl (by kernel_rfl)) (⟨_,exL fun l hC a w hI=>Vj hI [] [Ec 0 19 (Qs (.pointer (some ⟨g,0+((q.k:Int)).toNat*1,none⟩)))] (.k .z) (.k8 .z) (by kernel_rfl) (Xk (.tp 6 rfl) (.tp 7 rfl) Xr (.here 8 rfl)) (.k .z) (.kkkk (.kkdd (.k .z))),
     _,exL fun l hC a w hI=>Vj hI [] [] (.u none [(0,Kl (Zz (appG q.H l.b 3 true (List.replicate m W4)) g q.k (Kp l.hdr)))] .z) (.kkkk (.kkk .z)) (by kernel_rfl) (Vc (e:=⟨g,1,false,Vk q.R⟩) (idx:=q.k) (it:=Kp l.hdr) 0 rfl rfl rfl (by kernel_rfl) 0 rfl (by kernel_rfl) (by kernel_rfl) rfl (.tp 6 rfl) (Qbu hB.top (hC.2.2.2 _ hB.top)) rfl (by rw[topsO_len,hB.len]; omega) (show 0+((q.k:Int)).toNat*1=q.k*1 by omega) J5 (.tp 0 rfl) (Qb0 _ _ _)) (.s .o .z) (.dkkk (.kkd .z)),
     rfl⟩) ?_
   ·exact⟨Qa (.tp 3 rfl) (.here 6 rfl),Qa (.tp 4 rfl) (.here 7 rfl),Qa (.tp 1 rfl) (.here 8 rfl),op_makeSliceG (n:=m) (it:=W4) (zv:=.agg #[.bool false,.slice none 0 0,.slice none 0 0]) (z:=[.bool false,.slice none 0 0,.slice none 0 0]) 0 rfl rfl rfl rfl (by kernel_rfl) rfl 1 rfl rfl rfl rfl rfl (by kernel_rfl) (.tp 8 rfl) (.tp 8 rfl) (Zm).under (by kernel_rfl) rfl rfl (by omega) (by simp[Yu]) (fun _=>trivial) (by omega) (.none (by kernel_rfl)),trivial⟩
   ·rintro a w ⟨l,hC,hI⟩
    have hC:NewOk q.H m l:=hC
    refine Ql hI [] [Ec 0 7 (pI 0)] [0] (.k .z) (.kkkk (.k .z)) ?_ (.k .z) (.kkkk (.kk .z)) fun a w hI=>?_
    ·exact⟨Qc (.const _) (.here 5 rfl),trivial⟩
    refine wp_block ?_
    obtain⟨R2,eR2⟩:∃R2,R2=q.R.set q.k (some l):=⟨_,rfl⟩
    have hr:W1 R2 q.k=some l:=by rw[eR2,rowO_set (by rw[hB.len]; omega),if_pos rfl]
    have hP:=(hB.put (i:=q.k) (m:=m) (l:=List.replicate m W4) (by omega) (by rw[List.length_replicate]) hC).congr fun i _=>fill_start i
    rw[← eR2]at hP
    refine Xz (fun(q2:GI) a w=>(q2.k≤m∧GridOk 3 true g n R2 (Ug m (fun _ _=>Wp 0) q.k q2.k) q2.H)∧Inv ⟨33,w0,M,fun _=>False⟩ [⟨18,18,none,none,.obj,0,0,false,Kl q2.H,[]⟩] [] [Ez 0 (pI (n:Int)),Ez 1 (pI (m:Int)),Ez 4 (Qs ((Value.slice none 0 0))),Ez 5 (Qs (.slice (some ⟨g,0,none⟩) n n)),Ez 6 (pI (q.k:Int)),Ez 7 (pI (q2.k:Int))] Qi a w) (fun(q2:GI)=>m-q2.k) (⟨0,R2,Zz (appG q.H l.b 3 true (List.replicate m W4)) g q.k (Kp l.hdr)⟩) ⟨⟨Nat.zero_le _,hP⟩,(hI.conv ⟨⟨0,_,_,rfl,⟨rfl,rfl,rfl⟩,rfl,fun _=>(fun _ _ h=>h)⟩,trivial⟩ ⟨Qp 0 rfl,Qp 1 rfl,Qp 2 rfl,Qp 3 rfl,Qp 4 rfl,⟨rfl,rfl,5,_,rfl,(Xc rfl)⟩,trivial⟩)⟩ ?_
    intro q2 a w hIk
    obtain⟨⟨hk2,hB2⟩,hI⟩:=hIk
    refine wp_seq ?_
    refine Ql hI [] [Ec 0 20 (pI (q2.k:Int)),Ec 1 21 (pI (m:Int)),Ec 2 22 (pB (decide ((q2.k:Int)<(m:Int))))] [0,1,3] (.k .z) (.kkkk (.kk .z)) ?_ (.k .z) (.kkkk (.kkdd (.k .z))) fun a w hI=>?_
    ·exact⟨Qa (.tp 5 rfl) (.here 6 rfl),Qa (.tp 1 rfl) (.here 7 rfl),Qk (v:=.bool (decide ((q2.k:Int)<(m:Int)))) (.tp 6 rfl) (.tp 7 rfl) (fun _=>rfl) (.here 8 rfl),trivial⟩
    refine Xm hI 6 rfl (fun ht=>?_) (fun ht=>?_)
    ·have t2:=of_decide_eq_true ht
     refine wp_skip ?_
     refine Qf ?_
     refine wp_seq ?_
     refine wp_block ?_
     obtain⟨hln,hlc,_⟩:=hC
     refine Qc6 hI [] [Ec 0 25 (Qs (.slice (some ⟨g,0,none⟩) n n)),Ec 1 26 (pI (q.k:Int)),Ec 2 27 (Qs (.pointer (some ⟨g,0+((q.k:Int)).toNat*1,none⟩))),Ec 3 28 (Qs (.slice (some ⟨l.b,0,none⟩) l.n l.cap)),Ec 4 29 (pI (q2.k:Int)),Ec 5 30 (Qz ((0:Int):Rat)),Ec 6 31 (Qs (.pointer (some ⟨l.b,0+((q2.k:Int)).toNat*3,none⟩)))] [0,0,3,7,0,0,63,127] (.u none [(7,Kl (Zz q2.H l.b q2.k (Wp ((0:Int):Rat))))] .z) (.kkkk (.kkk .z)) ?_ (.s .o .z) (.kkkk (.kkdd (.dddd (.dd .z)))) fun a w hI=>?_
     ·exact⟨Qa (.tp 3 rfl) (.here 7 rfl),Qa (.tp 4 rfl) (.here 8 rfl),Xk (.tp 7 rfl) (.tp 8 rfl) Xr (.here 9 rfl),Z0 (e:=⟨g,1,false,Vk R2⟩) (idx:=q.k) 0 rfl rfl rfl (by kernel_rfl) rfl (.tp 9 rfl) hB2.top rfl (hB2.hd (by omega) hr) (show 0+((q.k:Int)).toNat*1=q.k*1 by omega) J5 (.here 10 rfl),Qa (.tp 5 rfl) (.here 11 rfl),Zf (fun _ _=>by kernel_rfl) (Yo _) (.const _) (.here 12 rfl) (Qcf 0 (by omega) (by omega)),Xk (.tp 10 rfl) (.tp 11 rfl) Zm (.here 13 rfl),Vc (e:=⟨l.b,3,true,(Ug m (fun _ _=>Wp 0) q.k q2.k) q.k⟩) (idx:=q2.k) (it:=Wp (((0:Int):Rat))) 0 rfl rfl rfl (by kernel_rfl) 0 rfl (by kernel_rfl) (by kernel_rfl) rfl (.tp 13 rfl) (hB2.rows q.k l (by omega) hr).2.2.2.1 rfl (by rw[fill_len]; omega) (show 0+((q2.k:Int)).toNat*3=q2.k*3 by omega) Yz (.tp 12 rfl) (Yn _),trivial⟩
     refine Yf ?_
     refine Qf ?_
     refine Y4 hI [] [Ec 0 23 (pI (q2.k:Int)),Ec 1 24 (pI ((q2.k:Int)+(1:Int))),Ec 2 7 (pI ((q2.k:Int)+(1:Int)))] [0,1,3] (.k .z) (.kkkk (.k (.t 2 .z))) ?_ (.k .z) (.kkkk (.kddd (.k .z))) fun a w hI=>?_
     ·exact⟨Qa (.tp 5 rfl) (.here 6 rfl),Qk (v:=.int .i64 (IntKind.i64.wrap ((q2.k:Int)+(1:Int)))) (.tp 6 rfl) (.const _) (fun _=>rfl) (.at_ 7 _ _ rfl (X8 (by omega))),Qc (.tp 7 rfl) (.here 8 rfl),trivial⟩
     refine Qf ?_
     exact⟨⟨q2.k+1,R2,Zz q2.H l.b q2.k (Wp ((0:Int):Rat))⟩,⟨⟨by show q2.k+1≤m; omega,(hB2.set (k:=q2.k) (it:=Wp ((0:Int):Rat)) (by omega) hr).congr fun i _=>fill_step (f:=(fun _ _=>Wp 0)) (by omega) i⟩,(hI.conv ⟨⟨0,_,_,rfl,⟨rfl,rfl,rfl⟩,rfl,fun _=>fun _ _ h=>h⟩,trivial⟩ ⟨Qp 0 rfl,Qp 1 rfl,Qp 2 rfl,Qp 3 rfl,Qp 4 rfl,⟨rfl,rfl,5,_,rfl,(Xc (by show((q2.k:Int)+1)=((q2.k+1:Nat):Int); omega))⟩,trivial⟩)⟩,(show m-(q2.k+1)<m-q2.k by omega)⟩
    ·have t3:=of_decide_eq_false ht
     refine wp_exit ?_
     refine Qy ?_
     refine Qy ?_
     refine Xv ?_
     refine Yf ?_
     refine Qf ?_
     refine Y4 hI [] [Ec 0 13 (pI (q.k:Int)),Ec 1 14 (pI ((q.k:Int)+(1:Int))),Ec 2 6 (pI ((q.k:Int)+(1:Int)))] [0,1,3] (.k .z) (.kkkk (.t 2 (.kk .z))) ?_ (.k .z) (.kkkk (.dddd (.dk .z))) fun a w hI=>?_
     ·exact⟨Qa (.tp 4 rfl) (.here 7 rfl),Qk (v:=.int .i64 (IntKind.i64.wrap ((q.k:Int)+(1:Int)))) (.tp 7 rfl) (.const _) (fun _=>rfl) (.at_ 8 _ _ rfl (X8 (by omega))),Qc (.tp 8 rfl) (.here 9 rfl),trivial⟩
     refine Qf ?_
     replace hI:=hI.reobj 9 9 (n0:=0) rfl (by kernel_rfl) (by kernel_rfl)
     exact⟨⟨q.k+1,R2,q2.H⟩,⟨⟨by show q.k+1≤n; omega,hB2.congr fun i _=>by rw[show q2.k=m by omega]; exact fill_end i⟩,(hI.conv ⟨⟨0,_,_,rfl,⟨rfl,rfl,rfl⟩,rfl,fun _=>fun _ _ h=>h⟩,trivial⟩ ⟨Qp 0 rfl,Qp 1 rfl,Qp 2 rfl,Qp 3 rfl,⟨rfl,rfl,4,_,rfl,(Xc (by show((q.k:Int)+1)=((q.k+1:Nat):Int); omega))⟩,trivial⟩)⟩,(show n-(q.k+1)<n-q.k by omega)⟩
  ·have t4:=of_decide_eq_false ht
   refine wp_exit ?_
   refine Qy ?_
   refine Qy ?_
   refine Xv ?_
   refine Qf ?_
   refine Ql hI [] [Ec 0 32 (Qs (.slice (some ⟨g,0,none⟩) n n)),Ec 1 4 (Qs (.slice (some ⟨g,0,none⟩) n n))] [0,1] (.k .z) (.kk (.t 1 (.kkk .z))) ?_ (.k .z) (.dddd (.dddk .z)) fun a w hI=>?_
   ·exact⟨Qa (.tp 3 rfl) (.here 6 rfl),Qc (.tp 6 rfl) (.here 7 rfl),trivial⟩
   refine wp_ret ?_
   exact finO1 (hd:=GridL.hd n) (Hl:=GridL.H) (⟨g,q.R,q.H⟩:GridL) (hB.congr fun i hi=>by rw[show q.k=n by omega]; exact part_end i hi) hI rfl (n0:=0) rfl (.tmp 0 rfl)
theorem sT_bits {j n J:Nat} (h:j<n) (hj:(n+1)*(J+1)≤2000000):1+j*(J+1)+J+(1+j*(J+1))+J+1≤10000000:=by
 have h1:=Nat.mul_le_mul_right (J+1) (show j+2≤n+1 by omega)
 have h2:(j+2)*(J+1)=j*(J+1)+(J+1)+(J+1):=by rw[Nat.add_mul]; omega
 omega
theorem bd_sT {A B:List (List Rat)} {j1 j2 i k:Nat} (hA:BdX j1 A) (hB:BdX j2 B):∀j,BdR (1+j*(j1+j2+1)) (sT A B i k j)
 |0=>by rw[Nat.zero_mul]; exact bd_zero
 |j+1=>((bd_sT hA hB j).add_t ((hA i j).mul (hB j k))).mono (by rw[Nat.succ_mul]; omega)
theorem tF_fin {A B:List (List Rat)} {i k:Nat} (hi:i<A.length) (hk:k<(B.getD 0 []).length) (hf:B.length=(A.getD 0 []).length) (hr:∀i,i<A.length→(A.getD i []).length=(A.getD 0 []).length):tF A B A.length 0 0 i k=Wp (((Ko A (Xu B)).getD i []).getD k 0):=by
 unfold tF
 rw[if_pos (by omega),Qcv hi,Qel (by rw[Wv]; exact hk),Qah hk,hr i hi,← hf,sT_dot _ (Nat.le_refl _)]
theorem cn_Times_ok {A B:List (List Rat)} {j1 j2:Nat} (hA:Right A) (hB:Right B) (hf:B.length=(A.getD 0 []).length) (hAb:BdX j1 A) (hBb:BdX j2 B) (hj:(B.length+1)*(j1+j2+1)≤2000000):∀(M:Nat→Nat→Prop) (w:World) (v0 v1:Value),Mid M w→Box M (fun w=>(Qr Qg A) w v0) w→Box M (fun w=>(Qr Qg B) w v1) w→Calls Tryz.prog 15 #[v0,v1] w (RetB M (Xn (Qj 1 false A.length (fun i=>Qg ((Ko A (Xu B)).getD i []))) (pI 0)) w):=by
 intro M w0 v0 v1 hM hv0 hv1
 have hrA:=hA.rows
 have hcA:=hA.cols
 have hrB:=hB.rows
 have hcB:=hB.cols
 have hAr:=hA.rect
 have hBr:=hB.rect
 have hj1:j1+j2+1≤2000000:=Nat.le_trans (Nat.le_trans (Nat.le_of_eq (Nat.one_mul _).symm) (Nat.mul_le_mul_right _ (by omega))) hj
 refine J1 (N:=86) Tryz.func15 rfl rfl rfl hM (show EntsA M w0 [v0,v1] [Ez 0 (Qr Qg A),Ez 1 (Qr Qg B)]from⟨⟨rfl,_,rfl,hv0⟩,⟨rfl,_,rfl,hv1⟩,trivial⟩) fun a hI=>?_
 refine Qo hI [Ec 0 4 (Qs ((Value.slice none 0 0))),Ec 1 5 (pI 0)] [0,1] (.kk .z) ?_ (.kkkk .z) fun a w hI=>?_
 ·exact⟨Qc (.const _) (.here 2 rfl),Qc (.const _) (.here 3 rfl),trivial⟩
 refine wp_seq ?_
 refine Qo hI [Ec 0 12 (Qr Qg A),Ec 1 13 (pI 0),Ec 2 6 (pI 0)] [0,1,3] (.kkkk .z) ?_ (.kkkk (.ddk .z)) fun a w hI=>?_
 ·exact⟨Qa (.tp 0 rfl) (.here 4 rfl),Q6 (fun _ _=>by kernel_rfl) (.tp 4 rfl) (.here 5 rfl) ((by have h:=K5 (A:=A) (by omega); rw[Up hA]at h; exact h)),Qc (.tp 5 rfl) (.here 6 rfl),trivial⟩
 refine Qo hI [Ec 0 14 (pI 0),Ec 1 15 (pB false)] [0,1] (.kkkk (.k .z)) ?_ (.kkkk (.kdk .z)) fun a w hI=>?_
 ·exact⟨Qa (.tp 4 rfl) (.here 5 rfl),Qk (v:=.bool (false)) (.tp 5 rfl) (.const _) (fun _=>rfl) (.here 6 rfl),trivial⟩
 refine Yk hI 5 rfl ?_
 refine wp_skip ?_
 refine Qf ?_
 refine wp_seq ?_
 refine Qo hI [Ec 0 17 (Qr Qg B),Ec 1 18 (pI 0),Ec 2 7 (pI 0)] [0,1,3] (.kkkk (.kk .z)) ?_ (.kkkk (.dddd (.k .z))) fun a w hI=>?_
 ·exact⟨Qa (.tp 1 rfl) (.here 6 rfl),Q6 (fun _ _=>by kernel_rfl) (.tp 6 rfl) (.here 7 rfl) ((by have h:=K5 (A:=B) (by omega); rw[Up hB]at h; exact h)),Qc (.tp 7 rfl) (.here 8 rfl),trivial⟩
 refine Qo hI [Ec 0 19 (pI 0),Ec 1 20 (pB false)] [0,1] (.kkkk (.k .z)) ?_ (.kkkk (.kdk .z)) fun a w hI=>?_
 ·exact⟨Qa (.tp 4 rfl) (.here 5 rfl),Qk (v:=.bool (false)) (.tp 5 rfl) (.const _) (fun _=>rfl) (.here 6 rfl),trivial⟩
 refine Yk hI 5 rfl ?_
 refine wp_skip ?_
 refine Qf ?_
 refine wp_seq ?_
 refine Qo hI [Ec 0 22 (Qr Qg B),Ec 1 23 (pI (B.length:Int)),Ec 2 24 (Qr Qg A),Ec 3 25 (Ye 1 false (Qg (A.getD 0 []))),Ec 4 26 (Qg (A.getD 0 [])),Ec 5 27 (pI ((A.getD 0 []).length:Int)),Ec 6 28 (pB false)] [0,1,3,7,15,31,63] (.kkkk (.kk .z)) ?_ (.kkkk (.d8 (.k .z))) fun a w hI=>?_
 ·exact⟨Qa (.tp 1 rfl) (.here 6 rfl),Q4 (.tp 6 rfl) (Xr).under (.here 7 rfl),Qa (.tp 0 rfl) (.here 8 rfl),Qw (.tp 8 rfl) (.const _) Xr (.here 9 rfl),Q7 (.tp 9 rfl) J5 ((Zp _)) (.here 10 rfl),Q4 (.tp 10 rfl) (Zm).under (.here 11 rfl),Qk (v:=.bool (((B.length:Int) != ((A.getD 0 []).length:Int)))) (.tp 7 rfl) (.tp 11 rfl) (fun _=>rfl) (.at_ 12 _ _ rfl (Y7 ((by rw[hf]; exact bne_self_eq_false _)))),trivial⟩
 refine Yk hI 4 rfl ?_
 refine wp_skip ?_
 refine Qf ?_
 refine Qc7 hI [] [] [Ec 0 29 (Qr Qg A),Ec 1 30 (pI (A.length:Int)),Ec 2 31 (Qr Qg B),Ec 3 32 (Ye 1 false (Qg (B.getD 0 []))),Ec 4 33 (Qg (B.getD 0 [])),Ec 5 34 (pI ((B.getD 0 []).length:Int))] .z (.kkkk (.k .z)) rfl [0,1,3,7,15,31,63,127] 6 (by kernel_rfl) ?_ .z (.kkkk (.ddkd (.ddk .z))) (fun a w hI=>hI) (⟨_,fun a w hI=>Qf3 35 (fun _ _=>by kernel_rfl) hI (.tp 4 rfl) (.tp 5 rfl) (fun M w v1 v2 hM h1 h2=>rn_zeros (n:=A.length) (m:=(B.getD 0 []).length) (by omega) (by omega) M w v1 v2 hM h1 h2) (by kernel_rfl) (by kernel_rfl) (by kernel_rfl),
   _,exL fun l hC a w hI=>Vj hI [] [Ec 0 8 (Qs (.slice (some ⟨l.g,0,none⟩) A.length A.length))] (.k .z) (.kkkk (.kkk .z)) (by kernel_rfl) (Qc (.tp 0 rfl) (.here 7 rfl)) (.k .z) (.dkkk (.kddk .z)),
   rfl⟩) ?_
 ·exact⟨Qa (.tp 0 rfl) (.here 5 rfl),Q4 (.tp 5 rfl) (Xr).under (.here 6 rfl),Qa (.tp 1 rfl) (.here 7 rfl),Qw (.tp 7 rfl) (.const _) Xr (.here 8 rfl),Q7 (.tp 8 rfl) J5 ((Zp _)) (.here 9 rfl),Q4 (.tp 9 rfl) (Zm).under (.here 10 rfl),trivial⟩
 ·rintro a w ⟨z,hC,hI⟩
  have hC:GridOk 3 true z.g A.length z.R (Zr (B.getD 0 []).length (fun _ _=>Wp 0)) z.H:=hC
  refine wp_seq ?_
  refine Ql hI [] [Ec 0 9 (pI 0)] [0] (.k .z) (.kkkk (.k .z)) ?_ (.k .z) (.kkkk (.kk .z)) fun a w hI=>?_
  ·exact⟨Qc (.const _) (.here 5 rfl),trivial⟩
  refine wp_block ?_
  refine Xz (fun(q:GI) a w=>(q.k≤A.length∧GridOk 3 true z.g A.length z.R (Zr (B.getD 0 []).length (tF A B q.k 0 0)) q.H)∧Inv ⟨86,w0,M,fun _=>False⟩ [⟨35,35,none,none,.obj,0,0,false,Kl q.H,[]⟩] [] [Ez 0 (Qr Qg A),Ez 1 (Qr Qg B),Ez 4 (Qs ((Value.slice none 0 0))),Ez 5 (pI 0),Ez 8 (Qs (.slice (some ⟨z.g,0,none⟩) A.length A.length)),Ez 9 (pI (q.k:Int))] Qi a w) (fun(q:GI)=>A.length-q.k) (⟨0,z.R,z.H⟩) ⟨⟨Nat.zero_le _,hC.congr fun i _=>tF_zero i⟩,(hI.conv ⟨⟨0,_,_,rfl,⟨rfl,rfl,rfl⟩,rfl,fun _=>(fun _ _ h=>h)⟩,trivial⟩ ⟨Qp 0 rfl,Qp 1 rfl,Qp 2 rfl,Qp 3 rfl,Qp 4 rfl,⟨rfl,rfl,5,_,rfl,(Xc rfl)⟩,trivial⟩)⟩ ?_
  intro q a w hIk
  obtain⟨⟨hk,hB1⟩,hI⟩:=hIk
  refine wp_seq ?_
  refine Ql hI [] [Ec 0 36 (pI (q.k:Int)),Ec 1 37 (Qr Qg A),Ec 2 38 (pI (A.length:Int)),Ec 3 39 (pB (decide ((q.k:Int)<(A.length:Int))))] [0,1,3,7] (.k .z) (.kkkk (.kk .z)) ?_ (.k .z) (.kkkk (.kkdd (.dk .z))) fun a w hI=>?_
  ·exact⟨Qa (.tp 5 rfl) (.here 6 rfl),Qa (.tp 0 rfl) (.here 7 rfl),Q4 (.tp 7 rfl) (Xr).under (.here 8 rfl),Qk (v:=.bool (decide ((q.k:Int)<(A.length:Int)))) (.tp 6 rfl) (.tp 8 rfl) (fun _=>rfl) (.here 9 rfl),trivial⟩
  refine Xm hI 6 rfl (fun ht=>?_) (fun ht=>?_)
  ·have t1:=of_decide_eq_true ht
   refine wp_skip ?_
   refine Qf ?_
   refine wp_seq ?_
   refine wp_block ?_
   refine Ql hI [] [Ec 0 10 (pI 0)] [0] (.k .z) (.kkkk (.kkk .z)) ?_ (.k .z) (.kkkk (.kkdk .z)) fun a w hI=>?_
   ·exact⟨Qc (.const _) (.here 7 rfl),trivial⟩
   refine wp_block ?_
   refine Xz (fun(q2:GI) a w=>(q2.k≤(B.getD 0 []).length∧GridOk 3 true z.g A.length z.R (Zr (B.getD 0 []).length (tF A B q.k q2.k 0)) q2.H)∧Inv ⟨86,w0,M,fun _=>False⟩ [⟨35,35,none,none,.obj,0,0,false,Kl q2.H,[]⟩] [] [Ez 0 (Qr Qg A),Ez 1 (Qr Qg B),Ez 4 (Qs ((Value.slice none 0 0))),Ez 5 (pI 0),Ez 8 (Qs (.slice (some ⟨z.g,0,none⟩) A.length A.length)),Ez 9 (pI (q.k:Int)),Ez 10 (pI (q2.k:Int))] Qi a w) (fun(q2:GI)=>(B.getD 0 []).length-q2.k) (⟨0,z.R,q.H⟩) ⟨⟨Nat.zero_le _,hB1⟩,(hI.conv ⟨⟨0,_,_,rfl,⟨rfl,rfl,rfl⟩,rfl,fun _=>(fun _ _ h=>h)⟩,trivial⟩ ⟨Qp 0 rfl,Qp 1 rfl,Qp 2 rfl,Qp 3 rfl,Qp 4 rfl,Qp 5 rfl,⟨rfl,rfl,6,_,rfl,(Xc rfl)⟩,trivial⟩)⟩ ?_
   intro q2 a w hIk
   obtain⟨⟨hk2,hB2⟩,hI⟩:=hIk
   refine wp_seq ?_
   refine Ql hI [] [Ec 0 42 (pI (q2.k:Int)),Ec 1 43 (Qr Qg B),Ec 2 44 (Ye 1 false (Qg (B.getD 0 []))),Ec 3 45 (Qg (B.getD 0 [])),Ec 4 46 (pI ((B.getD 0 []).length:Int)),Ec 5 47 (pB (decide ((q2.k:Int)<((B.getD 0 []).length:Int))))] [0,1,3,7,15,31] (.k .z) (.kkkk (.kkk .z)) ?_ (.k .z) (.kkkk (.kkkd (.dddd (.k .z)))) fun a w hI=>?_
   ·exact⟨Qa (.tp 6 rfl) (.here 7 rfl),Qa (.tp 1 rfl) (.here 8 rfl),Qw (.tp 8 rfl) (.const _) Xr (.here 9 rfl),Q7 (.tp 9 rfl) J5 ((Zp _)) (.here 10 rfl),Q4 (.tp 10 rfl) (Zm).under (.here 11 rfl),Qk (v:=.bool (decide ((q2.k:Int)<((B.getD 0 []).length:Int)))) (.tp 7 rfl) (.tp 11 rfl) (fun _=>rfl) (.here 12 rfl),trivial⟩
   refine Xm hI 7 rfl (fun ht=>?_) (fun ht=>?_)
   ·have t2:=of_decide_eq_true ht
    refine wp_skip ?_
    refine Qf ?_
    refine wp_seq ?_
    refine wp_block ?_
    refine Ql hI [] [Ec 0 11 (pI 0)] [0] (.k .z) (.k8 .z) ?_ (.k .z) (.kkkk (.kkkd (.k .z))) fun a w hI=>?_
    ·exact⟨Qc (.const _) (.here 8 rfl),trivial⟩
    refine wp_block ?_
    refine Xz (fun(q3:GI) a w=>(q3.k≤B.length∧GridOk 3 true z.g A.length z.R (Zr (B.getD 0 []).length (tF A B q.k q2.k q3.k)) q3.H)∧Inv ⟨86,w0,M,fun _=>False⟩ [⟨35,35,none,none,.obj,0,0,false,Kl q3.H,[]⟩] [] [Ez 0 (Qr Qg A),Ez 1 (Qr Qg B),Ez 4 (Qs ((Value.slice none 0 0))),Ez 5 (pI 0),Ez 8 (Qs (.slice (some ⟨z.g,0,none⟩) A.length A.length)),Ez 9 (pI (q.k:Int)),Ez 10 (pI (q2.k:Int)),Ez 11 (pI (q3.k:Int))] Qi a w) (fun(q3:GI)=>B.length-q3.k) (⟨0,z.R,q2.H⟩) ⟨⟨Nat.zero_le _,hB2⟩,(hI.conv ⟨⟨0,_,_,rfl,⟨rfl,rfl,rfl⟩,rfl,fun _=>(fun _ _ h=>h)⟩,trivial⟩ ⟨Qp 0 rfl,Qp 1 rfl,Qp 2 rfl,Qp 3 rfl,Qp 4 rfl,Qp 5 rfl,Qp 6 rfl,⟨rfl,rfl,7,_,rfl,(Xc rfl)⟩,trivial⟩)⟩ ?_
    intro q3 a w hIk
    obtain⟨⟨hk3,hB3⟩,hI⟩:=hIk
    refine wp_seq ?_
    refine Ql hI [] [Ec 0 50 (pI (q3.k:Int)),Ec 1 51 (Qr Qg B),Ec 2 52 (pI (B.length:Int)),Ec 3 53 (pB (decide ((q3.k:Int)<(B.length:Int))))] [0,1,3,7] (.k .z) (.k8 .z) ?_ (.k .z) (.k8 (.dddk .z)) fun a w hI=>?_
    ·exact⟨Qa (.tp 7 rfl) (.here 8 rfl),Qa (.tp 1 rfl) (.here 9 rfl),Q4 (.tp 9 rfl) (Xr).under (.here 10 rfl),Qk (v:=.bool (decide ((q3.k:Int)<(B.length:Int)))) (.tp 8 rfl) (.tp 10 rfl) (fun _=>rfl) (.here 11 rfl),trivial⟩
    refine Xm hI 8 rfl (fun ht=>?_) (fun ht=>?_)
    ·have t3:=of_decide_eq_true ht
     refine wp_skip ?_
     refine Qf ?_
     refine wp_seq ?_
     refine wp_block ?_
     obtain⟨r,hr⟩:=hB3.at_ (i:=q.k) (by omega) (by rw[K0]; omega)
     have hrn:=(hB3.rows q.k r (by omega) hr).1
     rw[K0]at hrn
     have hra:=hAr q.k (by omega)
     have hrb:=hBr q3.k (by omega)
     refine Qc6 hI [] [Ec 0 56 (Qs (.slice (some ⟨z.g,0,none⟩) A.length A.length)),Ec 1 57 (pI (q.k:Int)),Ec 2 58 (Qs (.pointer (some ⟨z.g,0+((q.k:Int)).toNat*1,none⟩))),Ec 3 59 (Qs (.slice (some ⟨r.b,0,none⟩) r.n r.cap)),Ec 4 60 (pI (q2.k:Int)),Ec 5 61 (Qs (.slice (some ⟨z.g,0,none⟩) A.length A.length)),Ec 6 62 (pI (q.k:Int)),Ec 7 63 (Qs (.pointer (some ⟨z.g,0+((q.k:Int)).toNat*1,none⟩))),Ec 8 64 (Qs (.slice (some ⟨r.b,0,none⟩) r.n r.cap)),Ec 9 65 (pI (q2.k:Int)),Ec 10 66 (Qs (.pointer (some ⟨r.b,0+((q2.k:Int)).toNat*3,none⟩))),Ec 11 67 (Qz (sT A B q.k q2.k q3.k)),Ec 12 68 (Qr Qg A),Ec 13 69 (pI (q.k:Int)),Ec 14 70 (Ye 1 false (Qg (A.getD q.k []))),Ec 15 71 (Qg (A.getD q.k [])),Ec 16 72 (pI (q3.k:Int)),Ec 17 73 (Ye 3 true (Qz ((A.getD q.k []).getD q3.k 0))),Ec 18 74 (Qz ((A.getD q.k []).getD q3.k 0)),Ec 19 75 (Qr Qg B),Ec 20 76 (pI (q3.k:Int)),Ec 21 77 (Ye 1 false (Qg (B.getD q3.k []))),Ec 22 78 (Qg (B.getD q3.k [])),Ec 23 79 (pI (q2.k:Int)),Ec 24 80 (Ye 3 true (Qz ((B.getD q3.k []).getD q2.k 0))),Ec 25 81 (Qz ((B.getD q3.k []).getD q2.k 0)),Ec 26 82 (Qz (((A.getD q.k []).getD q3.k 0)*((B.getD q3.k []).getD q2.k 0))),Ec 27 83 (Qz ((sT A B q.k q2.k q3.k)+(((A.getD q.k []).getD q3.k 0)*((B.getD q3.k []).getD q2.k 0)))),Ec 28 84 (Qs (.pointer (some ⟨r.b,0+((q2.k:Int)).toNat*3,none⟩)))] [0,0,3,7,0,0,0,96,224,0,992,2016,0,0,12288,28672,0,126976,258048,0,0,1572864,3670016,0,16252928,33030144,67104768,134217696,268435455,536870911] (.u none [(29,Kl (Zz q3.H r.b q2.k (Wp (sT A B q.k q2.k q3.k+(A.getD q.k []).getD q3.k 0*(B.getD q3.k []).getD q2.k 0))))] .z) (.k8 (.k .z)) ?_ (.s .o .z) (.k8 (.d8 (.d8 (.d8 (.dddd (.dd .z)))))) fun a w hI=>?_
     ·exact⟨Qa (.tp 4 rfl) (.here 9 rfl),Qa (.tp 5 rfl) (.here 10 rfl),Xk (.tp 9 rfl) (.tp 10 rfl) Xr (.here 11 rfl),Z0 (e:=⟨z.g,1,false,Vk z.R⟩) (idx:=q.k) 0 rfl rfl rfl (by kernel_rfl) rfl (.tp 11 rfl) hB3.top rfl (hB3.hd (by omega) hr) (show 0+((q.k:Int)).toNat*1=q.k*1 by omega) J5 (.here 12 rfl),Qa (.tp 6 rfl) (.here 13 rfl),Qa (.tp 4 rfl) (.here 14 rfl),Qa (.tp 5 rfl) (.here 15 rfl),Xk (.tp 14 rfl) (.tp 15 rfl) Xr (.here 16 rfl),Z0 (e:=⟨z.g,1,false,Vk z.R⟩) (idx:=q.k) 0 rfl rfl rfl (by kernel_rfl) rfl (.tp 16 rfl) hB3.top rfl (hB3.hd (by omega) hr) (show 0+((q.k:Int)).toNat*1=q.k*1 by omega) J5 (.here 17 rfl),Qa (.tp 6 rfl) (.here 18 rfl),Xk (.tp 17 rfl) (.tp 18 rfl) Zm (.here 19 rfl),Z0 (e:=⟨r.b,3,true,Zr (B.getD 0 []).length (tF A B q.k q2.k q3.k) q.k⟩) (idx:=q2.k) 0 rfl rfl rfl (by kernel_rfl) rfl (.tp 19 rfl) (hB3.rows q.k r (by omega) hr).2.2.2.1 rfl ((Qdm (by omega)).trans (congrArg some tF_at)) (show 0+((q2.k:Int)).toNat*3=q2.k*3 by omega) Yz (.here 20 rfl),Qa (.tp 0 rfl) (.here 21 rfl),Qa (.tp 5 rfl) (.here 22 rfl),Qw (.tp 21 rfl) (.tp 22 rfl) Xr (.at_ 23 _ _ rfl (by rw[Int.toNat_natCast]; exact fun _ _ h=>h)),Q7 (.tp 23 rfl) J5 ((Zp _)) (.here 24 rfl),Qa (.tp 7 rfl) (.here 25 rfl),Qw (.tp 24 rfl) (.tp 25 rfl) Zm (.at_ 26 _ _ rfl (by rw[Int.toNat_natCast]; exact fun _ _ h=>h)),Q7 (.tp 26 rfl) Yz (Yn _) (.here 27 rfl),Qa (.tp 1 rfl) (.here 28 rfl),Qa (.tp 7 rfl) (.here 29 rfl),Qw (.tp 28 rfl) (.tp 29 rfl) Xr (.at_ 30 _ _ rfl (by rw[Int.toNat_natCast]; exact fun _ _ h=>h)),Q7 (.tp 30 rfl) J5 ((Zp _)) (.here 31 rfl),Qa (.tp 6 rfl) (.here 32 rfl),Qw (.tp 31 rfl) (.tp 32 rfl) Zm (.at_ 33 _ _ rfl (by rw[Int.toNat_natCast]; exact fun _ _ h=>h)),Q7 (.tp 33 rfl) Yz (Yn _) (.here 34 rfl),Yi (fun _ _=>by kernel_rfl) (Yo _) (.tp 27 rfl) (.tp 34 rfl) (.here 35 rfl) (cn_mul (hAb q.k q3.k) (hBb q3.k q2.k) (by omega)),Yi (fun _ _=>by kernel_rfl) (Yo _) (.tp 20 rfl) (.tp 35 rfl) (.here 36 rfl) (cn_add (bd_sT hAb hBb q3.k) ((hAb q.k q3.k).mul (hBb q3.k q2.k)) (sT_bits (show q3.k<B.length by omega) hj)),Xk (.tp 12 rfl) (.tp 13 rfl) Zm (.here 37 rfl),Vc (e:=⟨r.b,3,true,Zr (B.getD 0 []).length (tF A B q.k q2.k q3.k) q.k⟩) (idx:=q2.k) (it:=Wp (sT A B q.k q2.k q3.k+(A.getD q.k []).getD q3.k 0*(B.getD q3.k []).getD q2.k 0)) 0 rfl rfl rfl (by kernel_rfl) 0 rfl (by kernel_rfl) (by kernel_rfl) rfl (.tp 37 rfl) (hB3.rows q.k r (by omega) hr).2.2.2.1 rfl (by rw[K0]; omega) (show 0+((q2.k:Int)).toNat*3=q2.k*3 by omega) Yz (.tp 36 rfl) (Yn _),trivial⟩
     refine Yf ?_
     refine Qf ?_
     refine Y4 hI [] [Ec 0 54 (pI (q3.k:Int)),Ec 1 55 (pI ((q3.k:Int)+(1:Int))),Ec 2 11 (pI ((q3.k:Int)+(1:Int)))] [0,1,3] (.k .z) (.kkkk (.kkk (.t 2 .z))) ?_ (.k .z) (.kkkk (.kkkd (.ddk .z))) fun a w hI=>?_
     ·exact⟨Qa (.tp 7 rfl) (.here 8 rfl),Qk (v:=.int .i64 (IntKind.i64.wrap ((q3.k:Int)+(1:Int)))) (.tp 8 rfl) (.const _) (fun _=>rfl) (.at_ 9 _ _ rfl (X8 (by omega))),Qc (.tp 9 rfl) (.here 10 rfl),trivial⟩
     refine Qf ?_
     exact⟨⟨q3.k+1,z.R,Zz q3.H r.b q2.k (Wp (sT A B q.k q2.k q3.k+(A.getD q.k []).getD q3.k 0*(B.getD q3.k []).getD q2.k 0))⟩,⟨⟨by show q3.k+1≤B.length; omega,(hB3.set (k:=q2.k) (it:=Wp (sT A B q.k q2.k q3.k+(A.getD q.k []).getD q3.k 0*(B.getD q3.k []).getD q2.k 0)) (by omega) hr).congr fun i _=>(rectX_set i).trans (by rw[tF_step])⟩,(hI.conv ⟨⟨0,_,_,rfl,⟨rfl,rfl,rfl⟩,rfl,fun _=>fun _ _ h=>h⟩,trivial⟩ ⟨Qp 0 rfl,Qp 1 rfl,Qp 2 rfl,Qp 3 rfl,Qp 4 rfl,Qp 5 rfl,Qp 6 rfl,⟨rfl,rfl,7,_,rfl,(Xc (by show((q3.k:Int)+1)=((q3.k+1:Nat):Int); omega))⟩,trivial⟩)⟩,(show B.length-(q3.k+1)<B.length-q3.k by omega)⟩
    ·have t4:=of_decide_eq_false ht
     refine wp_exit ?_
     refine Qy ?_
     refine Qy ?_
     refine Xv ?_
     refine Yf ?_
     refine Qf ?_
     refine Y4 hI [] [Ec 0 48 (pI (q2.k:Int)),Ec 1 49 (pI ((q2.k:Int)+(1:Int))),Ec 2 10 (pI ((q2.k:Int)+(1:Int)))] [0,1,3] (.k .z) (.kkkk (.kk (.t 2 (.kk .z)))) ?_ (.k .z) (.kkkk (.kkdd (.dddk .z))) fun a w hI=>?_
     ·exact⟨Qa (.tp 6 rfl) (.here 9 rfl),Qk (v:=.int .i64 (IntKind.i64.wrap ((q2.k:Int)+(1:Int)))) (.tp 9 rfl) (.const _) (fun _=>rfl) (.at_ 10 _ _ rfl (X8 (by omega))),Qc (.tp 10 rfl) (.here 11 rfl),trivial⟩
     refine Qf ?_
     exact⟨⟨q2.k+1,z.R,q3.H⟩,⟨⟨by show q2.k+1≤(B.getD 0 []).length; omega,by rw[show q3.k=B.length by omega,tF_next]at hB3; exact hB3⟩,(hI.conv ⟨⟨0,_,_,rfl,⟨rfl,rfl,rfl⟩,rfl,fun _=>fun _ _ h=>h⟩,trivial⟩ ⟨Qp 0 rfl,Qp 1 rfl,Qp 2 rfl,Qp 3 rfl,Qp 4 rfl,Qp 5 rfl,⟨rfl,rfl,6,_,rfl,(Xc (by show((q2.k:Int)+1)=((q2.k+1:Nat):Int); omega))⟩,trivial⟩)⟩,(show(B.getD 0 []).length-(q2.k+1)<(B.getD 0 []).length-q2.k by omega)⟩
   ·have t5:=of_decide_eq_false ht
    refine wp_exit ?_
    refine Qy ?_
    refine Qy ?_
    refine Xv ?_
    refine Yf ?_
    refine Qf ?_
    refine Y4 hI [] [Ec 0 40 (pI (q.k:Int)),Ec 1 41 (pI ((q.k:Int)+(1:Int))),Ec 2 9 (pI ((q.k:Int)+(1:Int)))] [0,1,3] (.k .z) (.kkkk (.k (.t 2 (.kk .z)))) ?_ (.k .z) (.kkkk (.kddd (.ddk .z))) fun a w hI=>?_
    ·exact⟨Qa (.tp 5 rfl) (.here 8 rfl),Qk (v:=.int .i64 (IntKind.i64.wrap ((q.k:Int)+(1:Int)))) (.tp 8 rfl) (.const _) (fun _=>rfl) (.at_ 9 _ _ rfl (X8 (by omega))),Qc (.tp 9 rfl) (.here 10 rfl),trivial⟩
    refine Qf ?_
    exact⟨⟨q.k+1,z.R,q2.H⟩,⟨⟨by show q.k+1≤A.length; omega,by rw[show q2.k=(B.getD 0 []).length by omega]at hB2; exact hB2.congr fun i _=>tF_row i⟩,(hI.conv ⟨⟨0,_,_,rfl,⟨rfl,rfl,rfl⟩,rfl,fun _=>fun _ _ h=>h⟩,trivial⟩ ⟨Qp 0 rfl,Qp 1 rfl,Qp 2 rfl,Qp 3 rfl,Qp 4 rfl,⟨rfl,rfl,5,_,rfl,(Xc (by show((q.k:Int)+1)=((q.k+1:Nat):Int); omega))⟩,trivial⟩)⟩,(show A.length-(q.k+1)<A.length-q.k by omega)⟩
  ·have t6:=of_decide_eq_false ht
   refine wp_exit ?_
   refine Qy ?_
   refine Qy ?_
   refine Xv ?_
   refine Qf ?_
   refine Ql hI [] [Ec 0 85 (Qs (.slice (some ⟨z.g,0,none⟩) A.length A.length)),Ec 1 4 (Qs (.slice (some ⟨z.g,0,none⟩) A.length A.length)),Ec 2 5 (pI 0)] [0,1,3] (.k .z) (.kk (.t 1 (.t 2 (.kkk .z)))) ?_ (.k .z) (.d8 (.kk .z)) fun a w hI=>?_
   ·exact⟨Qa (.tp 4 rfl) (.here 7 rfl),Qc (.tp 7 rfl) (.here 8 rfl),Qc (.const _) (.here 9 rfl),trivial⟩
   refine wp_ret ?_
   exact finObj2 hI rfl (n0:=0) rfl (.tmp 0 rfl) (.tmp 1 rfl) (p:=Qj 1 false A.length (fun i=>Qg ((Ko A (Xu B)).getD i []))) (fun B' w hH=>grid_refs (fun i hi=>by rw[Qcv hi,Qb1,Wv]) (fun i k hi hk=>by rw[show q.k=A.length by omega]; exact tF_fin hi hk hf hAr) w _ (hB1.read (Nat.le_refl _) (by omega) B' w hH))
theorem cn_Times_no1 {A B:List (List Rat)} (hAl:A.length≤1000000) (hBl:B.length≤1000000) (hA:¬Right A):∀(M:Nat→Nat→Prop) (w:World) (v0 v1:Value),Mid M w→Box M (fun w=>(Qr Qg A) w v0) w→Box M (fun w=>(Qr Qg B) w v1) w→Calls Tryz.prog 15 #[v0,v1] w (RetB M (Xn (Qs (.slice none 0 0)) (pI 4)) w):=by
 intro M w0 v0 v1 hM hv0 hv1
 refine Q5 (N:=86) Tryz.func15 rfl rfl rfl hM (show EntsA M w0 [v0,v1] [Ez 0 (Qr Qg A),Ez 1 (Qr Qg B)]from⟨⟨rfl,_,rfl,hv0⟩,⟨rfl,_,rfl,hv1⟩,trivial⟩) fun a hI=>?_
 refine Qo hI [Ec 0 4 (Qs ((Value.slice none 0 0))),Ec 1 5 (pI 0)] [0,1] (.kk .z) ?_ (.kkkk .z) fun a w hI=>?_
 ·exact⟨Qc (.const _) (.here 2 rfl),Qc (.const _) (.here 3 rfl),trivial⟩
 refine wp_seq ?_
 refine Qo hI [Ec 0 12 (Qr Qg A),Ec 1 13 (pI 4),Ec 2 6 (pI 4)] [0,1,3] (.kkkk .z) ?_ (.kkkk (.ddk .z)) fun a w hI=>?_
 ·exact⟨Qa (.tp 0 rfl) (.here 4 rfl),Q6 (fun _ _=>by kernel_rfl) (.tp 4 rfl) (.here 5 rfl) ((by have h:=K5 (A:=A) hAl; rw[Qbh hA]at h; exact h)),Qc (.tp 5 rfl) (.here 6 rfl),trivial⟩
 refine Qo hI [Ec 0 14 (pI 4),Ec 1 15 (pB true)] [0,1] (.kkkk (.k .z)) ?_ (.kkkk (.kdk .z)) fun a w hI=>?_
 ·exact⟨Qa (.tp 4 rfl) (.here 5 rfl),Qk (v:=.bool (true)) (.tp 5 rfl) (.const _) (fun _=>rfl) (.here 6 rfl),trivial⟩
 refine Zk hI 5 rfl ?_
 refine Qo hI [Ec 0 16 (pI 4),Ec 1 4 (Qs ((Value.slice none 0 0))),Ec 2 5 (pI 4)] [0,1,3] (.kk (.t 1 (.t 2 (.kk .z)))) ?_ (.kkdd (.dddk (.k .z))) fun a w hI=>?_
 ·exact⟨Qa (.tp 4 rfl) (.here 6 rfl),Qc (.const _) (.here 7 rfl),Qc (.tp 6 rfl) (.here 8 rfl),trivial⟩
 refine wp_ret ?_
 refine Xh ?_
 exact K7 hI rfl (.tmp 2 rfl) (.tmp 3 rfl)
theorem cn_Times_no2 {A B:List (List Rat)} (hAl:A.length≤1000000) (hBl:B.length≤1000000) (hA:Right A) (hB:¬Right B):∀(M:Nat→Nat→Prop) (w:World) (v0 v1:Value),Mid M w→Box M (fun w=>(Qr Qg A) w v0) w→Box M (fun w=>(Qr Qg B) w v1) w→Calls Tryz.prog 15 #[v0,v1] w (RetB M (Xn (Qs (.slice none 0 0)) (pI 4)) w):=by
 intro M w0 v0 v1 hM hv0 hv1
 refine Q5 (N:=86) Tryz.func15 rfl rfl rfl hM (show EntsA M w0 [v0,v1] [Ez 0 (Qr Qg A),Ez 1 (Qr Qg B)]from⟨⟨rfl,_,rfl,hv0⟩,⟨rfl,_,rfl,hv1⟩,trivial⟩) fun a hI=>?_
 refine Qo hI [Ec 0 4 (Qs ((Value.slice none 0 0))),Ec 1 5 (pI 0)] [0,1] (.kk .z) ?_ (.kkkk .z) fun a w hI=>?_
 ·exact⟨Qc (.const _) (.here 2 rfl),Qc (.const _) (.here 3 rfl),trivial⟩
 refine wp_seq ?_
 refine Qo hI [Ec 0 12 (Qr Qg A),Ec 1 13 (pI 0),Ec 2 6 (pI 0)] [0,1,3] (.kkkk .z) ?_ (.kkkk (.ddk .z)) fun a w hI=>?_
 ·exact⟨Qa (.tp 0 rfl) (.here 4 rfl),Q6 (fun _ _=>by kernel_rfl) (.tp 4 rfl) (.here 5 rfl) ((by have h:=K5 (A:=A) hAl; rw[Up hA]at h; exact h)),Qc (.tp 5 rfl) (.here 6 rfl),trivial⟩
 refine Qo hI [Ec 0 14 (pI 0),Ec 1 15 (pB false)] [0,1] (.kkkk (.k .z)) ?_ (.kkkk (.kdk .z)) fun a w hI=>?_
 ·exact⟨Qa (.tp 4 rfl) (.here 5 rfl),Qk (v:=.bool (false)) (.tp 5 rfl) (.const _) (fun _=>rfl) (.here 6 rfl),trivial⟩
 refine Yk hI 5 rfl ?_
 refine wp_skip ?_
 refine Qf ?_
 refine wp_seq ?_
 refine Qo hI [Ec 0 17 (Qr Qg B),Ec 1 18 (pI 4),Ec 2 7 (pI 4)] [0,1,3] (.kkkk (.kk .z)) ?_ (.kkkk (.dddd (.k .z))) fun a w hI=>?_
 ·exact⟨Qa (.tp 1 rfl) (.here 6 rfl),Q6 (fun _ _=>by kernel_rfl) (.tp 6 rfl) (.here 7 rfl) ((by have h:=K5 (A:=B) hBl; rw[Qbh hB]at h; exact h)),Qc (.tp 7 rfl) (.here 8 rfl),trivial⟩
 refine Qo hI [Ec 0 19 (pI 4),Ec 1 20 (pB true)] [0,1] (.kkkk (.k .z)) ?_ (.kkkk (.kdk .z)) fun a w hI=>?_
 ·exact⟨Qa (.tp 4 rfl) (.here 5 rfl),Qk (v:=.bool (true)) (.tp 5 rfl) (.const _) (fun _=>rfl) (.here 6 rfl),trivial⟩
 refine Zk hI 5 rfl ?_
 refine Qo hI [Ec 0 21 (pI 4),Ec 1 4 (Qs ((Value.slice none 0 0))),Ec 2 5 (pI 4)] [0,1,3] (.kk (.t 1 (.t 2 (.kk .z)))) ?_ (.kkdd (.dddk (.k .z))) fun a w hI=>?_
 ·exact⟨Qa (.tp 4 rfl) (.here 6 rfl),Qc (.const _) (.here 7 rfl),Qc (.tp 6 rfl) (.here 8 rfl),trivial⟩
 refine wp_ret ?_
 refine Xh ?_
 exact K7 hI rfl (.tmp 2 rfl) (.tmp 3 rfl)
theorem cn_Times_no3 {A B:List (List Rat)} (hAl:A.length≤1000000) (hBl:B.length≤1000000) (hA:Right A) (hB:Right B) (hf:B.length≠(A.getD 0 []).length):∀(M:Nat→Nat→Prop) (w:World) (v0 v1:Value),Mid M w→Box M (fun w=>(Qr Qg A) w v0) w→Box M (fun w=>(Qr Qg B) w v1) w→Calls Tryz.prog 15 #[v0,v1] w (RetB M (Xn (Qs (.slice none 0 0)) (pI 4)) w):=by
 intro M w0 v0 v1 hM hv0 hv1
 have hrA:=hA.rows
 refine Q5 (N:=86) Tryz.func15 rfl rfl rfl hM (show EntsA M w0 [v0,v1] [Ez 0 (Qr Qg A),Ez 1 (Qr Qg B)]from⟨⟨rfl,_,rfl,hv0⟩,⟨rfl,_,rfl,hv1⟩,trivial⟩) fun a hI=>?_
 refine Qo hI [Ec 0 4 (Qs ((Value.slice none 0 0))),Ec 1 5 (pI 0)] [0,1] (.kk .z) ?_ (.kkkk .z) fun a w hI=>?_
 ·exact⟨Qc (.const _) (.here 2 rfl),Qc (.const _) (.here 3 rfl),trivial⟩
 refine wp_seq ?_
 refine Qo hI [Ec 0 12 (Qr Qg A),Ec 1 13 (pI 0),Ec 2 6 (pI 0)] [0,1,3] (.kkkk .z) ?_ (.kkkk (.ddk .z)) fun a w hI=>?_
 ·exact⟨Qa (.tp 0 rfl) (.here 4 rfl),Q6 (fun _ _=>by kernel_rfl) (.tp 4 rfl) (.here 5 rfl) ((by have h:=K5 (A:=A) hAl; rw[Up hA]at h; exact h)),Qc (.tp 5 rfl) (.here 6 rfl),trivial⟩
 refine Qo hI [Ec 0 14 (pI 0),Ec 1 15 (pB false)] [0,1] (.kkkk (.k .z)) ?_ (.kkkk (.kdk .z)) fun a w hI=>?_
 ·exact⟨Qa (.tp 4 rfl) (.here 5 rfl),Qk (v:=.bool (false)) (.tp 5 rfl) (.const _) (fun _=>rfl) (.here 6 rfl),trivial⟩
 refine Yk hI 5 rfl ?_
 refine wp_skip ?_
 refine Qf ?_
 refine wp_seq ?_
 refine Qo hI [Ec 0 17 (Qr Qg B),Ec 1 18 (pI 0),Ec 2 7 (pI 0)] [0,1,3] (.kkkk (.kk .z)) ?_ (.kkkk (.dddd (.k .z))) fun a w hI=>?_
 ·exact⟨Qa (.tp 1 rfl) (.here 6 rfl),Q6 (fun _ _=>by kernel_rfl) (.tp 6 rfl) (.here 7 rfl) ((by have h:=K5 (A:=B) hBl; rw[Up hB]at h; exact h)),Qc (.tp 7 rfl) (.here 8 rfl),trivial⟩
 refine Qo hI [Ec 0 19 (pI 0),Ec 1 20 (pB false)] [0,1] (.kkkk (.k .z)) ?_ (.kkkk (.kdk .z)) fun a w hI=>?_
 ·exact⟨Qa (.tp 4 rfl) (.here 5 rfl),Qk (v:=.bool (false)) (.tp 5 rfl) (.const _) (fun _=>rfl) (.here 6 rfl),trivial⟩
 refine Yk hI 5 rfl ?_
 refine wp_skip ?_
 refine Qf ?_
 refine wp_seq ?_
 refine Qo hI [Ec 0 22 (Qr Qg B),Ec 1 23 (pI (B.length:Int)),Ec 2 24 (Qr Qg A),Ec 3 25 (Ye 1 false (Qg (A.getD 0 []))),Ec 4 26 (Qg (A.getD 0 [])),Ec 5 27 (pI ((A.getD 0 []).length:Int)),Ec 6 28 (pB true)] [0,1,3,7,15,31,63] (.kkkk (.kk .z)) ?_ (.kkkk (.d8 (.k .z))) fun a w hI=>?_
 ·exact⟨Qa (.tp 1 rfl) (.here 6 rfl),Q4 (.tp 6 rfl) (Xr).under (.here 7 rfl),Qa (.tp 0 rfl) (.here 8 rfl),Qw (.tp 8 rfl) (.const _) Xr (.here 9 rfl),Q7 (.tp 9 rfl) J5 ((Zp _)) (.here 10 rfl),Q4 (.tp 10 rfl) (Zm).under (.here 11 rfl),Qk (v:=.bool (((B.length:Int) != ((A.getD 0 []).length:Int)))) (.tp 7 rfl) (.tp 11 rfl) (fun _=>rfl) (.at_ 12 _ _ rfl (Y7 ((bne_iff_ne.2 (by omega))))),trivial⟩
 refine Zk hI 4 rfl ?_
 refine Qo hI [Ec 0 4 (Qs ((Value.slice none 0 0))),Ec 1 5 (pI 4)] [0,1] (.kk (.t 0 (.t 1 (.k .z)))) ?_ (.kkdd (.dkk .z)) fun a w hI=>?_
 ·exact⟨Qc (.const _) (.here 5 rfl),Qc (.const _) (.here 6 rfl),trivial⟩
 refine wp_ret ?_
 refine Xh ?_
 exact K7 hI rfl (.tmp 2 rfl) (.tmp 3 rfl)
theorem uF_fin {A:List (List Rat)} {i k:Nat} (hi:i<(A.getD 0 []).length) (hk:k<A.length):uF A A.length 0 i k=Wp (((Xu A).getD i []).getD k 0):=by
 unfold uF
 rw[if_pos (by omega),Qah hi,Qbi hk]
theorem Qf8 {A:List (List Rat)} (hA:Right A):∀(M:Nat→Nat→Prop) (w:World) (v0:Value),Mid M w→Box M (fun w=>(Qr Qg A) w v0) w→Calls Tryz.prog 17 #[v0] w (RetB M (Xn (Qj 1 false (A.getD 0 []).length (fun i=>Qg ((Xu A).getD i []))) (pI 0)) w):=by
 intro M w0 v0 hM hv0
 have hrA:=hA.rows
 have hcA:=hA.cols
 have hAr:=hA.rect
 refine J1 (N:=48) Tryz.func17 rfl rfl rfl hM (show EntsA M w0 [v0] [Ez 0 (Qr Qg A)]from⟨⟨rfl,_,rfl,hv0⟩,trivial⟩) fun a hI=>?_
 refine Qo hI [Ec 0 2 (Qs ((Value.slice none 0 0))),Ec 1 3 (pI 0)] [0,1] (.k .z) ?_ (.kkk .z) fun a w hI=>?_
 ·exact⟨Qc (.const _) (.here 1 rfl),Qc (.const _) (.here 2 rfl),trivial⟩
 refine wp_seq ?_
 refine Qo hI [Ec 0 8 (Qr Qg A),Ec 1 9 (pI 0),Ec 2 4 (pI 0)] [0,1,3] (.kkk .z) ?_ (.kkkd (.dk .z)) fun a w hI=>?_
 ·exact⟨Qa (.tp 0 rfl) (.here 3 rfl),Q6 (fun _ _=>by kernel_rfl) (.tp 3 rfl) (.here 4 rfl) ((by have h:=K5 (A:=A) (by omega); rw[Up hA]at h; exact h)),Qc (.tp 4 rfl) (.here 5 rfl),trivial⟩
 refine Qo hI [Ec 0 10 (pI 0),Ec 1 11 (pB false)] [0,1] (.kkkk .z) ?_ (.kkkk (.dk .z)) fun a w hI=>?_
 ·exact⟨Qa (.tp 3 rfl) (.here 4 rfl),Qk (v:=.bool (false)) (.tp 4 rfl) (.const _) (fun _=>rfl) (.here 5 rfl),trivial⟩
 refine Yk hI 4 rfl ?_
 refine wp_skip ?_
 refine Qf ?_
 refine Qc7 hI [] [] [Ec 0 13 (Qr Qg A),Ec 1 14 (Ye 1 false (Qg (A.getD 0 []))),Ec 2 15 (Qg (A.getD 0 [])),Ec 3 16 (pI ((A.getD 0 []).length:Int)),Ec 4 17 (Qr Qg A),Ec 5 18 (pI (A.length:Int))] .z (.kkkk (.k .z)) rfl [0,1,3,7,15,31,63,127] 6 (by kernel_rfl) ?_ .z (.kkkd (.dddd (.kdk .z))) (fun a w hI=>hI) (⟨_,fun a w hI=>Qf3 19 (fun _ _=>by kernel_rfl) hI (.tp 3 rfl) (.tp 4 rfl) (fun M w v1 v2 hM h1 h2=>rn_zeros (n:=(A.getD 0 []).length) (m:=A.length) (by omega) (by omega) M w v1 v2 hM h1 h2) (by kernel_rfl) (by kernel_rfl) (by kernel_rfl),
   _,exL fun l hC a w hI=>Vj hI [] [Ec 0 5 (Qs (.slice (some ⟨l.g,0,none⟩) ((A.getD 0 []).length) ((A.getD 0 []).length)))] (.k .z) (.kkkk (.kk .z)) (by kernel_rfl) (Qc (.tp 0 rfl) (.here 6 rfl)) (.k .z) (.dkkk (.ddk .z)),
   rfl⟩) ?_
 ·exact⟨Qa (.tp 0 rfl) (.here 5 rfl),Qw (.tp 5 rfl) (.const _) Xr (.here 6 rfl),Q7 (.tp 6 rfl) J5 ((Zp _)) (.here 7 rfl),Q4 (.tp 7 rfl) (Zm).under (.here 8 rfl),Qa (.tp 0 rfl) (.here 9 rfl),Q4 (.tp 9 rfl) (Xr).under (.here 10 rfl),trivial⟩
 ·rintro a w ⟨z,hC,hI⟩
  have hC:GridOk 3 true z.g (A.getD 0 []).length z.R (Zr A.length (fun _ _=>Wp 0)) z.H:=hC
  refine wp_seq ?_
  refine Ql hI [] [Ec 0 6 (pI 0)] [0] (.k .z) (.kkkk .z) ?_ (.k .z) (.kkkk (.k .z)) fun a w hI=>?_
  ·exact⟨Qc (.const _) (.here 4 rfl),trivial⟩
  refine wp_block ?_
  refine Xz (fun(q:GI) a w=>(q.k≤A.length∧GridOk 3 true z.g (A.getD 0 []).length z.R (Zr A.length (uF A q.k 0)) q.H)∧Inv ⟨48,w0,M,fun _=>False⟩ [⟨19,19,none,none,.obj,0,0,false,Kl q.H,[]⟩] [] [Ez 0 (Qr Qg A),Ez 2 (Qs ((Value.slice none 0 0))),Ez 3 (pI 0),Ez 5 (Qs (.slice (some ⟨z.g,0,none⟩) ((A.getD 0 []).length) ((A.getD 0 []).length))),Ez 6 (pI (q.k:Int))] Qi a w) (fun(q:GI)=>A.length-q.k) (⟨0,z.R,z.H⟩) ⟨⟨Nat.zero_le _,hC.congr fun i _=>uF_zero i⟩,(hI.conv ⟨⟨0,_,_,rfl,⟨rfl,rfl,rfl⟩,rfl,fun _=>(fun _ _ h=>h)⟩,trivial⟩ ⟨Qp 0 rfl,Qp 1 rfl,Qp 2 rfl,Qp 3 rfl,⟨rfl,rfl,4,_,rfl,(Xc rfl)⟩,trivial⟩)⟩ ?_
  intro q a w hIk
  obtain⟨⟨hk,hB1⟩,hI⟩:=hIk
  refine wp_seq ?_
  refine Ql hI [] [Ec 0 20 (pI (q.k:Int)),Ec 1 21 (Qr Qg A),Ec 2 22 (pI (A.length:Int)),Ec 3 23 (pB (decide ((q.k:Int)<(A.length:Int))))] [0,1,3,7] (.k .z) (.kkkk (.k .z)) ?_ (.k .z) (.kkkk (.kddd (.k .z))) fun a w hI=>?_
  ·exact⟨Qa (.tp 4 rfl) (.here 5 rfl),Qa (.tp 0 rfl) (.here 6 rfl),Q4 (.tp 6 rfl) (Xr).under (.here 7 rfl),Qk (v:=.bool (decide ((q.k:Int)<(A.length:Int)))) (.tp 5 rfl) (.tp 7 rfl) (fun _=>rfl) (.here 8 rfl),trivial⟩
  refine Xm hI 5 rfl (fun ht=>?_) (fun ht=>?_)
  ·have t1:=of_decide_eq_true ht
   refine wp_skip ?_
   refine Qf ?_
   refine wp_seq ?_
   refine wp_block ?_
   refine Ql hI [] [Ec 0 7 (pI 0)] [0] (.k .z) (.kkkk (.kk .z)) ?_ (.k .z) (.kkkk (.kdk .z)) fun a w hI=>?_
   ·exact⟨Qc (.const _) (.here 6 rfl),trivial⟩
   refine wp_block ?_
   refine Xz (fun(q2:GI) a w=>(q2.k≤(A.getD 0 []).length∧GridOk 3 true z.g (A.getD 0 []).length z.R (Zr A.length (uF A q.k q2.k)) q2.H)∧Inv ⟨48,w0,M,fun _=>False⟩ [⟨19,19,none,none,.obj,0,0,false,Kl q2.H,[]⟩] [] [Ez 0 (Qr Qg A),Ez 2 (Qs ((Value.slice none 0 0))),Ez 3 (pI 0),Ez 5 (Qs (.slice (some ⟨z.g,0,none⟩) ((A.getD 0 []).length) ((A.getD 0 []).length))),Ez 6 (pI (q.k:Int)),Ez 7 (pI (q2.k:Int))] Qi a w) (fun(q2:GI)=>(A.getD 0 []).length-q2.k) (⟨0,z.R,q.H⟩) ⟨⟨Nat.zero_le _,hB1⟩,(hI.conv ⟨⟨0,_,_,rfl,⟨rfl,rfl,rfl⟩,rfl,fun _=>(fun _ _ h=>h)⟩,trivial⟩ ⟨Qp 0 rfl,Qp 1 rfl,Qp 2 rfl,Qp 3 rfl,Qp 4 rfl,⟨rfl,rfl,5,_,rfl,(Xc rfl)⟩,trivial⟩)⟩ ?_
   intro q2 a w hIk
   obtain⟨⟨hk2,hB2⟩,hI⟩:=hIk
   refine wp_seq ?_
   refine Ql hI [] [Ec 0 26 (pI (q2.k:Int)),Ec 1 27 (Qr Qg A),Ec 2 28 (Ye 1 false (Qg (A.getD 0 []))),Ec 3 29 (Qg (A.getD 0 [])),Ec 4 30 (pI ((A.getD 0 []).length:Int)),Ec 5 31 (pB (decide ((q2.k:Int)<((A.getD 0 []).length:Int))))] [0,1,3,7,15,31] (.k .z) (.kkkk (.kk .z)) ?_ (.k .z) (.kkkk (.kkdd (.dddk .z))) fun a w hI=>?_
   ·exact⟨Qa (.tp 5 rfl) (.here 6 rfl),Qa (.tp 0 rfl) (.here 7 rfl),Qw (.tp 7 rfl) (.const _) Xr (.here 8 rfl),Q7 (.tp 8 rfl) J5 ((Zp _)) (.here 9 rfl),Q4 (.tp 9 rfl) (Zm).under (.here 10 rfl),Qk (v:=.bool (decide ((q2.k:Int)<((A.getD 0 []).length:Int)))) (.tp 6 rfl) (.tp 10 rfl) (fun _=>rfl) (.here 11 rfl),trivial⟩
   refine Xm hI 6 rfl (fun ht=>?_) (fun ht=>?_)
   ·have t2:=of_decide_eq_true ht
    refine wp_skip ?_
    refine Qf ?_
    refine wp_seq ?_
    refine wp_block ?_
    obtain⟨r,hr⟩:=hB2.at_ (i:=q2.k) (by omega) (by rw[K0]; omega)
    have hrn:=(hB2.rows q2.k r (by omega) hr).1
    rw[K0]at hrn
    have hra:=hAr q.k (by omega)
    refine Qc6 hI [] [Ec 0 34 (Qs (.slice (some ⟨z.g,0,none⟩) ((A.getD 0 []).length) ((A.getD 0 []).length))),Ec 1 35 (pI (q2.k:Int)),Ec 2 36 (Qs (.pointer (some ⟨z.g,0+((q2.k:Int)).toNat*1,none⟩))),Ec 3 37 (Qs (.slice (some ⟨r.b,0,none⟩) r.n r.cap)),Ec 4 38 (pI (q.k:Int)),Ec 5 39 (Qr Qg A),Ec 6 40 (pI (q.k:Int)),Ec 7 41 (Ye 1 false (Qg (A.getD q.k []))),Ec 8 42 (Qg (A.getD q.k [])),Ec 9 43 (pI (q2.k:Int)),Ec 10 44 (Ye 3 true (Qz ((A.getD q.k []).getD q2.k 0))),Ec 11 45 (Qz ((A.getD q.k []).getD q2.k 0)),Ec 12 46 (Qs (.pointer (some ⟨r.b,0+((q.k:Int)).toNat*3,none⟩)))] [0,0,3,7,0,0,0,96,224,0,992,2016,4095,8191] (.u none [(13,Kl (Zz q2.H r.b q.k (Wp ((A.getD q.k []).getD q2.k 0))))] .z) (.kkkk (.kkk .z)) ?_ (.s .o .z) (.kkkk (.kkdd (.d8 (.dddd .z)))) fun a w hI=>?_
    ·exact⟨Qa (.tp 3 rfl) (.here 7 rfl),Qa (.tp 5 rfl) (.here 8 rfl),Xk (.tp 7 rfl) (.tp 8 rfl) Xr (.here 9 rfl),Z0 (e:=⟨z.g,1,false,Vk z.R⟩) (idx:=q2.k) 0 rfl rfl rfl (by kernel_rfl) rfl (.tp 9 rfl) hB2.top rfl (hB2.hd (by omega) hr) (show 0+((q2.k:Int)).toNat*1=q2.k*1 by omega) J5 (.here 10 rfl),Qa (.tp 4 rfl) (.here 11 rfl),Qa (.tp 0 rfl) (.here 12 rfl),Qa (.tp 4 rfl) (.here 13 rfl),Qw (.tp 12 rfl) (.tp 13 rfl) Xr (.at_ 14 _ _ rfl (by rw[Int.toNat_natCast]; exact fun _ _ h=>h)),Q7 (.tp 14 rfl) J5 ((Zp _)) (.here 15 rfl),Qa (.tp 5 rfl) (.here 16 rfl),Qw (.tp 15 rfl) (.tp 16 rfl) Zm (.at_ 17 _ _ rfl (by rw[Int.toNat_natCast]; exact fun _ _ h=>h)),Q7 (.tp 17 rfl) Yz (Yn _) (.here 18 rfl),Xk (.tp 10 rfl) (.tp 11 rfl) Zm (.here 19 rfl),Vc (e:=⟨r.b,3,true,Zr A.length (uF A q.k q2.k) q2.k⟩) (idx:=q.k) (it:=Wp ((A.getD q.k []).getD q2.k 0)) 0 rfl rfl rfl (by kernel_rfl) 0 rfl (by kernel_rfl) (by kernel_rfl) rfl (.tp 19 rfl) (hB2.rows q2.k r (by omega) hr).2.2.2.1 rfl (by rw[K0]; omega) (show 0+((q.k:Int)).toNat*3=q.k*3 by omega) Yz (.tp 18 rfl) (Yn _),trivial⟩
    refine Yf ?_
    refine Qf ?_
    refine Y4 hI [] [Ec 0 32 (pI (q2.k:Int)),Ec 1 33 (pI ((q2.k:Int)+(1:Int))),Ec 2 7 (pI ((q2.k:Int)+(1:Int)))] [0,1,3] (.k .z) (.kkkk (.k (.t 2 .z))) ?_ (.k .z) (.kkkk (.kddd (.k .z))) fun a w hI=>?_
    ·exact⟨Qa (.tp 5 rfl) (.here 6 rfl),Qk (v:=.int .i64 (IntKind.i64.wrap ((q2.k:Int)+(1:Int)))) (.tp 6 rfl) (.const _) (fun _=>rfl) (.at_ 7 _ _ rfl (X8 (by omega))),Qc (.tp 7 rfl) (.here 8 rfl),trivial⟩
    refine Qf ?_
    exact⟨⟨q2.k+1,z.R,Zz q2.H r.b q.k (Wp ((A.getD q.k []).getD q2.k 0))⟩,⟨⟨by show q2.k+1≤(A.getD 0 []).length; omega,(hB2.set (k:=q.k) (it:=Wp ((A.getD q.k []).getD q2.k 0)) (by omega) hr).congr fun i _=>(rectX_set i).trans (by rw[uF_step])⟩,(hI.conv ⟨⟨0,_,_,rfl,⟨rfl,rfl,rfl⟩,rfl,fun _=>fun _ _ h=>h⟩,trivial⟩ ⟨Qp 0 rfl,Qp 1 rfl,Qp 2 rfl,Qp 3 rfl,Qp 4 rfl,⟨rfl,rfl,5,_,rfl,(Xc (by show((q2.k:Int)+1)=((q2.k+1:Nat):Int); omega))⟩,trivial⟩)⟩,(show(A.getD 0 []).length-(q2.k+1)<(A.getD 0 []).length-q2.k by omega)⟩
   ·have t3:=of_decide_eq_false ht
    refine wp_exit ?_
    refine Qy ?_
    refine Qy ?_
    refine Xv ?_
    refine Yf ?_
    refine Qf ?_
    refine Y4 hI [] [Ec 0 24 (pI (q.k:Int)),Ec 1 25 (pI ((q.k:Int)+(1:Int))),Ec 2 6 (pI ((q.k:Int)+(1:Int)))] [0,1,3] (.k .z) (.kkkk (.t 2 (.kk .z))) ?_ (.k .z) (.kkkk (.dddd (.dk .z))) fun a w hI=>?_
    ·exact⟨Qa (.tp 4 rfl) (.here 7 rfl),Qk (v:=.int .i64 (IntKind.i64.wrap ((q.k:Int)+(1:Int)))) (.tp 7 rfl) (.const _) (fun _=>rfl) (.at_ 8 _ _ rfl (X8 (by omega))),Qc (.tp 8 rfl) (.here 9 rfl),trivial⟩
    refine Qf ?_
    exact⟨⟨q.k+1,z.R,q2.H⟩,⟨⟨by show q.k+1≤A.length; omega,by rw[show q2.k=(A.getD 0 []).length by omega]at hB2; exact hB2.congr fun i hi=>uF_row i hi⟩,(hI.conv ⟨⟨0,_,_,rfl,⟨rfl,rfl,rfl⟩,rfl,fun _=>fun _ _ h=>h⟩,trivial⟩ ⟨Qp 0 rfl,Qp 1 rfl,Qp 2 rfl,Qp 3 rfl,⟨rfl,rfl,4,_,rfl,(Xc (by show((q.k:Int)+1)=((q.k+1:Nat):Int); omega))⟩,trivial⟩)⟩,(show A.length-(q.k+1)<A.length-q.k by omega)⟩
  ·have t4:=of_decide_eq_false ht
   refine wp_exit ?_
   refine Qy ?_
   refine Qy ?_
   refine Xv ?_
   refine Qf ?_
   refine Ql hI [] [Ec 0 47 (Qs (.slice (some ⟨z.g,0,none⟩) ((A.getD 0 []).length) ((A.getD 0 []).length))),Ec 1 2 (Qs (.slice (some ⟨z.g,0,none⟩) ((A.getD 0 []).length) ((A.getD 0 []).length))),Ec 2 3 (pI 0)] [0,1,3] (.k .z) (.k (.t 1 (.t 2 (.kkk .z)))) ?_ (.k .z) (.dddd (.dddk (.k .z))) fun a w hI=>?_
   ·exact⟨Qa (.tp 3 rfl) (.here 6 rfl),Qc (.tp 6 rfl) (.here 7 rfl),Qc (.const _) (.here 8 rfl),trivial⟩
   refine wp_ret ?_
   exact finObj2 hI rfl (n0:=0) rfl (.tmp 0 rfl) (.tmp 1 rfl) (p:=Qj 1 false (A.getD 0 []).length (fun i=>Qg ((Xu A).getD i []))) (fun B' w hH=>grid_refs (fun i hi=>by rw[Qah hi,Va]) (fun i k hi hk=>by rw[show q.k=A.length by omega]; exact uF_fin hi hk) w _ (hB1.read (Nat.le_refl _) (by omega) B' w hH))
theorem Qf7 {A:List (List Rat)} (hAl:A.length≤1000000) (hA:¬Right A):∀(M:Nat→Nat→Prop) (w:World) (v0:Value),Mid M w→Box M (fun w=>(Qr Qg A) w v0) w→Calls Tryz.prog 17 #[v0] w (RetB M (Xn (Qs (.slice none 0 0)) (pI 4)) w):=by
 intro M w0 v0 hM hv0
 refine Q5 (N:=48) Tryz.func17 rfl rfl rfl hM (show EntsA M w0 [v0] [Ez 0 (Qr Qg A)]from⟨⟨rfl,_,rfl,hv0⟩,trivial⟩) fun a hI=>?_
 refine Qo hI [Ec 0 2 (Qs ((Value.slice none 0 0))),Ec 1 3 (pI 0)] [0,1] (.k .z) ?_ (.kkk .z) fun a w hI=>?_
 ·exact⟨Qc (.const _) (.here 1 rfl),Qc (.const _) (.here 2 rfl),trivial⟩
 refine wp_seq ?_
 refine Qo hI [Ec 0 8 (Qr Qg A),Ec 1 9 (pI 4),Ec 2 4 (pI 4)] [0,1,3] (.kkk .z) ?_ (.kkkd (.dk .z)) fun a w hI=>?_
 ·exact⟨Qa (.tp 0 rfl) (.here 3 rfl),Q6 (fun _ _=>by kernel_rfl) (.tp 3 rfl) (.here 4 rfl) ((by have h:=K5 (A:=A) hAl; rw[Qbh hA]at h; exact h)),Qc (.tp 4 rfl) (.here 5 rfl),trivial⟩
 refine Qo hI [Ec 0 10 (pI 4),Ec 1 11 (pB true)] [0,1] (.kkkk .z) ?_ (.kkkk (.dk .z)) fun a w hI=>?_
 ·exact⟨Qa (.tp 3 rfl) (.here 4 rfl),Qk (v:=.bool (true)) (.tp 4 rfl) (.const _) (fun _=>rfl) (.here 5 rfl),trivial⟩
 refine Zk hI 4 rfl ?_
 refine Qo hI [Ec 0 12 (pI 4),Ec 1 2 (Qs ((Value.slice none 0 0))),Ec 2 3 (pI 4)] [0,1,3] (.k (.t 1 (.t 2 (.kk .z)))) ?_ (.kddd (.ddkk .z)) fun a w hI=>?_
 ·exact⟨Qa (.tp 3 rfl) (.here 5 rfl),Qc (.const _) (.here 6 rfl),Qc (.tp 5 rfl) (.here 7 rfl),trivial⟩
 refine wp_ret ?_
 refine Xh ?_
 exact K7 hI rfl (.tmp 1 rfl) (.tmp 2 rfl)
end Wx
