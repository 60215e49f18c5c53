import Derived.Test.YtpiniclogfefjaaGreatJSolves35
import Derived.Test.YtpiniclogfefjaaGreatJSolves37
namespace Wx
attribute [local irreducible] Q0
set_option maxRecDepth 100000
open Go Go.RowKit Go.Proofs
set_option linter.unusedVariables false

theorem Qcq {A:List (List Rat)} (hA:A.length≤1000000):∀(M:Nat→Nat→Prop) (w:World) (v0:Value),Mid M w→Box M (fun w=>(Qc 1 false A.length (fun i=>Qk (A.getD i []))) w v0) w→Calls Tryz.prog 11 #[v0] w (RetB M (pI (chk A)) w):=by
 intro M w0 v0 hM hv0
 refine Q8 (N:=44) Tryz.func11 rfl rfl rfl hM (show EntsA M w0 [v0] [⟨none,none,0,Qc 1 false A.length (fun i=>Qk (A.getD i []))⟩]from⟨⟨rfl,_,rfl,hv0⟩,trivial⟩) fun a hI=>?_
 refine Qj hI 1 [Uc 0 2 _] (.k .z) ⟨mv,trivial⟩ (.kk .z) fun a w hI=>?_
 refine wp_seq ?_
 refine Qj hI 8 [Uc 0 4 _,Uc 1 5 (pI (A.length:Int)),Uc 2 6 _,Uc 3 7 _,Uc 4 8 _,Uc 5 9 (Z2 ((decide ((A.length:Int)<(1:Int)))=false) (pI (A.length:Int))),Uc 6 10 _,Uc 7 11 _] (.kk .z) ⟨mv,Qm (.tmp 2 rfl rfl) (Qy).under (.here 3 rfl),bl,mv,gd fun h=>gmv h,Jg 5 rfl rfl (fun hc=>Qm (.sel (.tmp 6 rfl rfl) hc) (Qy).under (.sel hc 7 rfl)) (by kernel_rfl) (fun _=>.none (by kernel_rfl)) (fun hc=>.sel_no hc 7 rfl),gd fun h=>gbl h,pk,trivial⟩ (.kkdd (.dddd (.dk .z))) fun a w hI=>?_
 refine Xa hI 2 rfl (fun ht=>?_) (fun ht=>?_)
 ·have t1:=ht
  refine Qj hI 1 [Uc 0 2 _] (.k (.t 0 (.k .z))) ⟨mv,trivial⟩ (.kddk .z) fun a w hI=>?_
  refine wp_ret ?_
  refine Xf ?_
  exact Zu hI rfl (.imp (.tmp 1 rfl) (Qw ((wr_num t1).symm)))
 ·have t2:=ht
  refine wp_skip ?_
  refine Qb ?_
  refine wp_seq ?_
  refine Qj hI 1 [Uc 0 3 _] (.kkk .z) ⟨mv,trivial⟩ (.kkdk .z) fun a w hI=>?_
  refine wp_block ?_
  refine Q9 (fun(k:Nat) a w=>(k≤A.length∧∀q,q<k→rowBad A q=false)∧Inv ⟨44,w0,M,fun _=>False⟩ [] [] [⟨none,none,0,Qc 1 false A.length (fun i=>Qk (A.getD i []))⟩,⟨none,none,3,pI (k:Int)⟩] Qf a w) (fun(k:Nat)=>A.length-k) (0) ⟨⟨Nat.zero_le _,fun q hq=>by omega⟩,(hI.conv trivial ⟨⟨rfl,rfl,0,_,rfl,fun _ _ h=>h⟩,⟨rfl,rfl,2,_,rfl,(Qw (by omega))⟩,trivial⟩)⟩ ?_
  intro k a w hIk
  obtain⟨hp,hI⟩:=hIk
  refine wp_seq ?_
  refine Qj hI 4 [Uc 0 12 _,Uc 1 13 _,Uc 2 14 (pI (A.length:Int)),Uc 3 15 _] (.kk .z) ⟨mv,mv,Qm (.tmp 3 rfl rfl) (Qy).under (.here 4 rfl),bl,trivial⟩ (.kkdd (.dk .z)) fun a w hI=>?_
  refine Xa hI 2 rfl (fun ht=>?_) (fun ht=>?_)
  ·have t3:=of_decide_eq_true ht
   refine wp_skip ?_
   refine Qb ?_
   refine wp_seq ?_
   refine wp_block ?_
   refine sqD0 hI [0,0,3,7,15,31,63,127,127,511,1023,2047,4095,8191,16383,32767,32767,131071,262143,524287,32767,1081343,3178495,7372799,16777215,33554431] [Uc 0 18 _,Uc 1 19 _,Uc 2 20 _,Uc 3 21 (Qk (A.getD k [])),Uc 4 22 (pI ((A.getD k []).length:Int)),Uc 5 23 _,Uc 6 24 _,Uc 7 25 _,Uc 8 26 _,Uc 9 27 (Z2 ((decide (((A.getD k []).length:Int)<(1:Int)))=false) (Wr 1 false (Qk (A.getD k [])))),Uc 10 28 (Z2 ((decide (((A.getD k []).length:Int)<(1:Int)))=false) (Qk (A.getD k []))),Uc 11 29 (Z2 ((decide (((A.getD k []).length:Int)<(1:Int)))=false) (pI ((A.getD k []).length:Int))),Uc 12 30 _,Uc 13 31 _,Uc 14 32 _,Uc 15 33 _,Uc 16 34 _,Uc 17 35 (Z2 (((decide (((A.getD k []).length:Int)<(1:Int)))||(decide (((A.getD k []).length:Int)>(8:Int))))=false) (Wr 1 false (Qk (A.getD k [])))),Uc 18 36 (Z2 (((decide (((A.getD k []).length:Int)<(1:Int)))||(decide (((A.getD k []).length:Int)>(8:Int))))=false) (Qk (A.getD k []))),Uc 19 37 (Z2 (((decide (((A.getD k []).length:Int)<(1:Int)))||(decide (((A.getD k []).length:Int)>(8:Int))))=false) (pI ((A.getD k []).length:Int))),Uc 20 38 _,Uc 21 39 (Z2 (((decide (((A.getD k []).length:Int)<(1:Int)))||(decide (((A.getD k []).length:Int)>(8:Int))))=false) (Wr 1 false (Qk (A.getD 0 [])))),Uc 22 40 (Z2 (((decide (((A.getD k []).length:Int)<(1:Int)))||(decide (((A.getD k []).length:Int)>(8:Int))))=false) (Qk (A.getD 0 []))),Uc 23 41 (Z2 (((decide (((A.getD k []).length:Int)<(1:Int)))||(decide (((A.getD k []).length:Int)>(8:Int))))=false) (pI ((A.getD 0 []).length:Int))),Uc 24 42 _,Uc 25 43 _] (.kkk .z) ⟨mv,mv,Ky Qy,Q5 (.tmp 5 rfl rfl) Jt ((Zb _)) (.here 6 rfl),Qm (.tmp 6 rfl rfl) (Xz).under (.here 7 rfl),bl,mv,gd fun h=>gmv h,gd fun h=>gmv h,Jg 9 rfl rfl (fun hc=>Jo (.sel (.tmp 10 rfl rfl) hc) (.sel (.tmp 11 rfl rfl) hc) Qy (by omega) (by omega) (by kernel_rfl) (.sel hc 12 rfl)) (by kernel_rfl) (fun _=>.none (by kernel_rfl)) (fun hc=>.sel_no hc 12 rfl),Jg 9 rfl rfl (fun hc=>Q5 (.sel (.tmp 12 rfl rfl) hc) Jt ((Zb _)) (.sel hc 13 rfl)) (by kernel_rfl) (fun _=>.none (by kernel_rfl)) (fun hc=>.sel_no hc 13 rfl),Jg 9 rfl rfl (fun hc=>Qm (.sel (.tmp 13 rfl rfl) hc) (Xz).under (.sel hc 14 rfl)) (by kernel_rfl) (fun _=>.none (by kernel_rfl)) (fun hc=>.sel_no hc 14 rfl),gd fun h=>gbl h,pk,mv,gd fun h=>gmv h,gd fun h=>gmv h,Jg 17 rfl rfl (fun hc=>Jo (.sel (.tmp 18 rfl rfl) hc) (.sel (.tmp 19 rfl rfl) hc) Qy (by omega) (by omega) (by kernel_rfl) (.sel hc 20 rfl)) (by kernel_rfl) (fun _=>.none (by kernel_rfl)) (fun hc=>.sel_no hc 20 rfl),Jg 17 rfl rfl (fun hc=>Q5 (.sel (.tmp 20 rfl rfl) hc) Jt ((Zb _)) (.sel hc 21 rfl)) (by kernel_rfl) (fun _=>.none (by kernel_rfl)) (fun hc=>.sel_no hc 21 rfl),Jg 17 rfl rfl (fun hc=>Qm (.sel (.tmp 21 rfl rfl) hc) (Xz).under (.sel hc 22 rfl)) (by kernel_rfl) (fun _=>.none (by kernel_rfl)) (fun hc=>.sel_no hc 22 rfl),gd fun h=>gmv h,Jg 17 rfl rfl (fun hc=>Jo (.sel (.tmp 23 rfl rfl) hc) (.const _) Qy (by omega) (by omega) (by kernel_rfl) (.sel hc 24 rfl)) (by kernel_rfl) (fun _=>.none (by kernel_rfl)) (fun hc=>.sel_no hc 24 rfl),Jg 17 rfl rfl (fun hc=>Q5 (.sel (.tmp 24 rfl rfl) hc) Jt ((Zb _)) (.sel hc 25 rfl)) (by kernel_rfl) (fun _=>.none (by kernel_rfl)) (fun hc=>.sel_no hc 25 rfl),Jg 17 rfl rfl (fun hc=>Qm (.sel (.tmp 25 rfl rfl) hc) (Xz).under (.sel hc 26 rfl)) (by kernel_rfl) (fun _=>.none (by kernel_rfl)) (fun hc=>.sel_no hc 26 rfl),gd fun h=>gbl h,pk,trivial⟩ (.kkdd (.dddd (.ddkk (.kkkk (.ddkk (.k8 (.k .z))))))) fun a w hI=>?_
   refine Xa hI 18 rfl (fun ht=>?_) (fun ht=>?_)
   ·have t4:=ht
    refine Qj hI 1 [Uc 0 2 _] (.k8 (.k8 (.kkk .z))) ⟨mv,trivial⟩ (.k8 (.k8 (.kkdk .z))) fun a w hI=>?_
    refine wp_ret ?_
    refine Z5 ?_
    refine Xf ?_
    refine Xf ?_
    refine Z5 ?_
    refine Xf ?_
    exact Zu hI rfl (.imp (.tmp 18 rfl) (Qw ((wr_row (k:=k) (by omega) t4).symm)))
   ·have t5:=ht
    refine wp_skip ?_
    refine Xo ?_
    refine Qb ?_
    refine srT0 hI 3 [Uc 0 16 _,Uc 1 17 _,Uc 2 3 _] (.k (.t 2 (.k8 (.k8 (.k .z))))) ⟨mv,bl,mv,trivial⟩ (.kdkk (.k8 (.kkkk (.kkdd (.dk .z))))) fun a w hI=>?_
    refine Qb ?_
    exact⟨k+1,⟨⟨by omega,fun q hq=>by rcases Nat.lt_or_ge q k with h|h; exact hp.2 q h; rw[show q=k by omega]; exact t5⟩,(hI.conv trivial ⟨⟨rfl,rfl,0,_,rfl,fun _ _ h=>h⟩,⟨rfl,rfl,17,_,rfl,(Qw (by omega))⟩,trivial⟩)⟩,(show A.length-(k+1)<A.length-k by omega)⟩
  ·have t6:=of_decide_eq_false ht
   refine wp_exit ?_
   refine Ql ?_
   refine Ql ?_
   refine Q7 ?_
   refine Qb ?_
   refine Qj hI 1 [Uc 0 2 _] (.kkk .z) ⟨mv,trivial⟩ (.dddk .z) fun a w hI=>?_
   refine wp_ret ?_
   exact Zu hI rfl (.imp (.tmp 0 rfl) (Qw ((wr_ok t2 (fun i hi=>hp.2 i (by omega))).symm)))
theorem cn_wrongSquare {A:List (List Rat)} (hA:A.length≤1000000) (hR:Right A):∀(M:Nat→Nat→Prop) (w:World) (v0:Value),Mid M w→Box M (fun w=>(Qc 1 false A.length (fun i=>Qk (A.getD i []))) w v0) w→Calls Tryz.prog 42 #[v0] w (RetB M (pI (sqchk A)) w):=by
 intro M w0 v0 hM hv0
 have hr:=hR.rows
 refine Q8 (N:=16) Tryz.func42 rfl rfl rfl hM (show EntsA M w0 [v0] [⟨none,none,0,Qc 1 false A.length (fun i=>Qk (A.getD i []))⟩]from⟨⟨rfl,_,rfl,hv0⟩,trivial⟩) fun a hI=>?_
 refine Qj hI 1 [Uc 0 2 _] (.k .z) ⟨mv,trivial⟩ (.kk .z) fun a w hI=>?_
 refine wp_seq ?_
 refine Qj hI 3 [Uc 0 4 _,Uc 1 5 _,Uc 2 3 _] (.kk .z) ⟨mv,Z0 ((by have h:=Qcq hA; rw[chk_ok hR]at h; exact h)),mv,trivial⟩ (.kkdd (.k .z)) fun a w hI=>?_
 refine Qj hI 2 [Uc 0 6 _,Uc 1 7 (pB false)] (.kkk .z) ⟨mv,Q6 (v:=.bool (false)) (.tmp 3 rfl rfl) (.const _) (fun _=>rfl) (.here 4 rfl),trivial⟩ (.kkkd (.k .z)) fun a w hI=>?_
 refine Xv hI 3 rfl ?_
 refine wp_skip ?_
 refine Qb ?_
 refine wp_seq ?_
 refine Qj hI 7 [Uc 0 9 _,Uc 1 10 (pI (A.length:Int)),Uc 2 11 _,Uc 3 12 _,Uc 4 13 (Qk (A.getD 0 [])),Uc 5 14 (pI ((A.getD 0 []).length:Int)),Uc 6 15 _] (.kkkk .z) ⟨mv,Qm (.tmp 4 rfl rfl) (Qy).under (.here 5 rfl),mv,ixL Qy,Q5 (.tmp 7 rfl rfl) Jt ((Zb _)) (.here 8 rfl),Qm (.tmp 8 rfl rfl) (Xz).under (.here 9 rfl),bl,trivial⟩ (.dkdd (.dddd (.ddk .z))) fun a w hI=>?_
 refine Xa hI 1 rfl (fun ht=>?_) (fun ht=>?_)
 ·have t1:=ht
  refine Qj hI 1 [Uc 0 2 _] (.t 0 (.k .z)) ⟨mv,trivial⟩ (.ddk .z) fun a w hI=>?_
  refine wp_ret ?_
  refine Xf ?_
  exact Zu hI rfl (.imp (.tmp 0 rfl) (Qw ((Qgx fun h=>by have:=h.2; simp[this]at t1).symm)))
 ·have t2:=ht
  refine wp_skip ?_
  refine Qb ?_
  refine Qj hI 1 [Uc 0 2 _] (.t 0 (.k .z)) ⟨mv,trivial⟩ (.ddk .z) fun a w hI=>?_
  refine wp_ret ?_
  exact Zu hI rfl (.imp (.tmp 0 rfl) (Qw ((Qc6 hR (by have:=bne_eq_false_iff_eq.1 t2; omega)).symm)))
theorem Qh0 {A:List (List Rat)} (hA:A.length≤1000000) (hR:¬Right A):∀(M:Nat→Nat→Prop) (w:World) (v0:Value),Mid M w→Box M (fun w=>(Qc 1 false A.length (fun i=>Qk (A.getD i []))) w v0) w→Calls Tryz.prog 42 #[v0] w (RetB M (pI (sqchk A)) w):=by
 intro M w0 v0 hM hv0
 refine Q8 (N:=16) Tryz.func42 rfl rfl rfl hM (show EntsA M w0 [v0] [⟨none,none,0,Qc 1 false A.length (fun i=>Qk (A.getD i []))⟩]from⟨⟨rfl,_,rfl,hv0⟩,trivial⟩) fun a hI=>?_
 refine Qj hI 1 [Uc 0 2 _] (.k .z) ⟨mv,trivial⟩ (.kk .z) fun a w hI=>?_
 refine wp_seq ?_
 refine Qj hI 3 [Uc 0 4 _,Uc 1 5 _,Uc 2 3 _] (.kk .z) ⟨mv,Z0 ((by have h:=Qcq hA; rw[chk_no hR]at h; exact h)),mv,trivial⟩ (.kkdd (.k .z)) fun a w hI=>?_
 refine Qj hI 2 [Uc 0 6 _,Uc 1 7 (pB true)] (.kkk .z) ⟨mv,Q6 (v:=.bool (true)) (.tmp 3 rfl rfl) (.const _) (fun _=>rfl) (.here 4 rfl),trivial⟩ (.kkkd (.k .z)) fun a w hI=>?_
 refine Y9 hI 3 rfl ?_
 refine Qj hI 2 [Uc 0 8 _,Uc 1 2 _] (.k (.t 1 (.kk .z))) ⟨mv,mv,trivial⟩ (.kddd (.dk .z)) fun a w hI=>?_
 refine wp_ret ?_
 refine Xf ?_
 exact Zu hI rfl (.imp (.tmp 1 rfl) (Qw (Qgx fun h=>hR h.1).symm))
theorem Qbk {A:List (List Rat)} (hA:A.length≤1000000):∀(M:Nat→Nat→Prop) (w:World) (v0:Value),Mid M w→Box M (fun w=>(Qc 1 false A.length (fun i=>Qk (A.getD i []))) w v0) w→Calls Tryz.prog 42 #[v0] w (RetB M (pI (sqchk A)) w):=by
 by_cases h:Right A
 ·exact cn_wrongSquare hA h
 ·exact Qh0 hA h
structure GI where
 k:Nat
 R:List (Option RowL)
 H:List Bk
theorem Qe5 {n m:Nat} (hn:n≤1000000) (hm:m≤1000000):∀(M:Nat→Nat→Prop) (w:World) (v0 v1:Value),Mid M w→Box M (fun w=>(pI (n:Int)) w v0) w→Box M (fun w=>(pI (m:Int)) w v1) w→Calls Tryz.prog 50 #[v0,v1] w (RetO (fun l:GridL=>GridOk 3 true l.g n l.R (X9 m (fun _ _=>Zr 0)) l.H) (GridL.hd n) GridL.H w):=by
 intro M w0 v0 v1 hM hv0 hv1
 refine Yk (N:=33) Tryz.func50 rfl rfl rfl hM (show EntsA M w0 [v0,v1] [⟨none,none,0,pI (n:Int)⟩,⟨none,none,1,pI (m:Int)⟩]from⟨⟨rfl,_,rfl,hv0⟩,⟨rfl,_,rfl,hv1⟩,trivial⟩) fun a hI=>?_
 refine Qj hI 1 [Uc 0 4 _] (.kk .z) ⟨mv,trivial⟩ (.kkk .z) fun a w hI=>?_
 refine Vz hI [⟨9,9,some 1,none,.obj,0,0,false,pMade 1 false n (Zm (.slice none 0 0)),[]⟩] [] [⟨some 0,none,8,pI (n:Int)⟩] .z (.kkk .z) rfl [0,1,3] 2 (by kernel_rfl) ?_ (.k .z) (.kkkd .z) (fun a w hI=>hI.openMade 0 rfl (by kernel_rfl)) (⟨_,U2 fun l hC a w hI=>Jw hI [] [⟨some 0,none,5,Qi (.slice (some ⟨l,0,none⟩) n n)⟩] (.k .z) (.kkkk .z) (by kernel_rfl) (Ys (.tmp 0 rfl rfl) (.here 4 rfl)) (.k .z) (.dkkk (.k .z)),
   rfl⟩) ?_
 ·exact⟨Qx (.tmp 0 rfl rfl) (.here 3 rfl),Qbg (zv:=.slice none 0 0) (z:=[.slice none 0 0]) 0 rfl rfl rfl rfl rfl (by kernel_rfl) (.tmp 3 rfl rfl) (.tmp 3 rfl rfl) (Qy).under (by kernel_rfl) rfl rfl (by omega) (fun u hu=>by rw[List.mem_singleton.1 hu]; exact Jz _ _ _) (fun _=>rfl) (by omega) (.none (by kernel_rfl)),trivial⟩
 ·rintro a w ⟨g,hC,hI⟩
  have hC:True:=hC
  refine wp_seq ?_
  refine Q3 hI 1 [] [] [Uc 0 6 _] (.k .z) (.kkkk .z) ⟨mv,trivial⟩ (.k .z) (.kkkk (.k .z)) fun a w hI=>?_
  refine wp_block ?_
  refine Q9 (fun(q:GI) a w=>(q.k≤n∧GridOk 3 true g n q.R (partX m q.k (fun _ _=>Zr 0)) q.H)∧Inv ⟨33,w0,M,fun _=>False⟩ [⟨9,9,none,none,.obj,0,0,false,Zo q.H,[]⟩] [] [⟨none,none,0,pI (n:Int)⟩,⟨none,none,1,pI (m:Int)⟩,⟨none,none,4,Qi ((Value.slice none 0 0))⟩,⟨none,none,5,Qi (.slice (some ⟨g,0,none⟩) n n)⟩,⟨none,none,6,pI (q.k:Int)⟩] Qf a w) (fun(q:GI)=>n-q.k) (⟨0,List.replicate n none,[⟨g,1,false,List.replicate n (Zm (.slice none 0 0))⟩]⟩) ⟨⟨Nat.zero_le _,(grid_nil 3 true g n).congr fun i _=>part_zero i⟩,(hI.conv ⟨⟨0,_,_,rfl,⟨rfl,rfl,rfl⟩,rfl,fun _=>(fun _ _ h=>h)⟩,trivial⟩ ⟨⟨rfl,rfl,0,_,rfl,fun _ _ h=>h⟩,⟨rfl,rfl,1,_,rfl,fun _ _ h=>h⟩,⟨rfl,rfl,2,_,rfl,fun _ _ h=>h⟩,⟨rfl,rfl,3,_,rfl,fun _ _ h=>h⟩,⟨rfl,rfl,4,_,rfl,(Qw rfl)⟩,trivial⟩)⟩ ?_
  intro q a w hIk
  obtain⟨⟨hk,hB⟩,hI⟩:=hIk
  refine wp_seq ?_
  refine Q3 hI 3 [] [] [Uc 0 10 _,Uc 1 11 _,Uc 2 12 _] (.k .z) (.kkkk (.k .z)) ⟨mv,mv,bl,trivial⟩ (.k .z) (.kkkk (.kddk .z)) fun a w hI=>?_
  refine Xa hI 5 rfl (fun ht=>?_) (fun ht=>?_)
  ·have t1:=of_decide_eq_true ht
   refine wp_skip ?_
   refine Qb ?_
   refine wp_seq ?_
   refine wp_block ?_
   refine Vz hI [⟨18,18,some 3,none,.obj,0,0,false,pNew q.H 3 true m Uf,[]⟩] [] [⟨some 0,none,15,Qi (.slice (some ⟨g,0,none⟩) n n)⟩,⟨some 1,none,16,pI (q.k:Int)⟩,⟨some 2,none,17,pI (m:Int)⟩] (.u (some 3) [] .z) (.kkkk (.kk .z)) rfl [0,1,3,7,15,31] 4 (by kernel_rfl) ?_ (.d (.k .z)) (.kkkk (.kdkk (.d .z))) (fun a w hI=>hI.openNew 0 rfl (by kernel_rfl)) (⟨_,U2 fun l hC a w hI=>Jw hI [] [⟨some 0,none,19,Qi (.pointer (some ⟨g,0+((q.k:Int)).toNat*1,none⟩))⟩] (.k .z) (.k8 .z) (by kernel_rfl) (Qs (.tmp 6 rfl rfl) (.tmp 7 rfl rfl) Qy (by omega) (by omega) (by kernel_rfl) (.here 8 rfl)) (.k .z) (.kkkk (.kkdd (.k .z))),
     _,U2 fun l hC a w hI=>Jw hI [] [] (.u none [(0,Zo (Ye (appG q.H l.b 3 true (List.replicate m Uf)) g q.k (Zm l.hdr)))] .z) (.kkkk (.kkk .z)) (by kernel_rfl) (Zn (e:=⟨g,1,false,Vf q.R⟩) (idx:=q.k) (it:=Zm l.hdr) 0 rfl rfl rfl (by kernel_rfl) 0 rfl (by kernel_rfl) (by kernel_rfl) rfl (.tmp 6 rfl rfl) (Qdw hB.top (hC.2.2.2 _ hB.top)) rfl (by rw[topsO_len,hB.len]; omega) (show 0+((q.k:Int)).toNat*1=q.k*1 by omega) Jt (.tmp 0 rfl rfl) (Vo _ _ _)) (.s .o .z) (.dkkk (.kkd .z)),
     rfl⟩) ?_
   ·exact⟨Qx (.tmp 3 rfl rfl) (.here 6 rfl),Qx (.tmp 4 rfl rfl) (.here 7 rfl),Qx (.tmp 1 rfl rfl) (.here 8 rfl),op_makeSliceG (n:=m) (it:=Uf) (zv:=.agg #[.bool false,.slice none 0 0,.slice none 0 0]) (z:=[.bool false,.slice none 0 0,.slice none 0 0]) 0 rfl rfl rfl rfl (by kernel_rfl) rfl 1 rfl rfl rfl rfl rfl (by kernel_rfl) (.tmp 8 rfl rfl) (.tmp 8 rfl rfl) (Xz).under (by kernel_rfl) rfl rfl (by omega) (by simp[Yw]) (fun _=>trivial) (by omega) (.none (by kernel_rfl)),trivial⟩
   ·rintro a w ⟨l,hC,hI⟩
    have hC:NewOk q.H m l:=hC
    refine Q3 hI 1 [] [] [Uc 0 7 _] (.k .z) (.kkkk (.k .z)) ⟨mv,trivial⟩ (.k .z) (.kkkk (.kk .z)) fun a w hI=>?_
    refine wp_block ?_
    obtain⟨R2,eR2⟩:∃R2,R2=q.R.set q.k (some l):=⟨_,rfl⟩
    have hr:V8 R2 q.k=some l:=by rw[eR2,rowO_set (by rw[hB.len]; omega),if_pos rfl]
    have hP:=(hB.put (i:=q.k) (m:=m) (l:=List.replicate m Uf) (by omega) (by rw[List.length_replicate]) hC).congr fun i _=>fill_start i
    rw[← eR2]at hP
    refine Q9 (fun(q2:GI) a w=>(q2.k≤m∧GridOk 3 true g n R2 (Qaw m (fun _ _=>Zr 0) q.k q2.k) q2.H)∧Inv ⟨33,w0,M,fun _=>False⟩ [⟨18,18,none,none,.obj,0,0,false,Zo q2.H,[]⟩] [] [⟨none,none,0,pI (n:Int)⟩,⟨none,none,1,pI (m:Int)⟩,⟨none,none,4,Qi ((Value.slice none 0 0))⟩,⟨none,none,5,Qi (.slice (some ⟨g,0,none⟩) n n)⟩,⟨none,none,6,pI (q.k:Int)⟩,⟨none,none,7,pI (q2.k:Int)⟩] Qf a w) (fun(q2:GI)=>m-q2.k) (⟨0,R2,Ye (appG q.H l.b 3 true (List.replicate m Uf)) g q.k (Zm l.hdr)⟩) ⟨⟨Nat.zero_le _,hP⟩,(hI.conv ⟨⟨0,_,_,rfl,⟨rfl,rfl,rfl⟩,rfl,fun _=>(fun _ _ h=>h)⟩,trivial⟩ ⟨⟨rfl,rfl,0,_,rfl,fun _ _ h=>h⟩,⟨rfl,rfl,1,_,rfl,fun _ _ h=>h⟩,⟨rfl,rfl,2,_,rfl,fun _ _ h=>h⟩,⟨rfl,rfl,3,_,rfl,fun _ _ h=>h⟩,⟨rfl,rfl,4,_,rfl,fun _ _ h=>h⟩,⟨rfl,rfl,5,_,rfl,(Qw rfl)⟩,trivial⟩)⟩ ?_
    intro q2 a w hIk
    obtain⟨⟨hk2,hB2⟩,hI⟩:=hIk
    refine wp_seq ?_
    refine Q3 hI 3 [] [] [Uc 0 20 _,Uc 1 21 _,Uc 2 22 _] (.k .z) (.kkkk (.kk .z)) ⟨mv,mv,bl,trivial⟩ (.k .z) (.kkkk (.kkdd (.k .z))) fun a w hI=>?_
    refine Xa hI 6 rfl (fun ht=>?_) (fun ht=>?_)
    ·have t2:=of_decide_eq_true ht
     refine wp_skip ?_
     refine Qb ?_
     refine wp_seq ?_
     refine wp_block ?_
     obtain⟨hln,hlc,_⟩:=hC
     refine srD hI [0,0,3,7,0,0,63,127] [] [] [Uc 0 25 _,Uc 1 26 _,Uc 2 27 (Qi (.pointer (some ⟨g,0+((q.k:Int)).toNat*1,none⟩))),Uc 3 28 (Qi (.slice (some ⟨l.b,0,none⟩) l.n l.cap)),Uc 4 29 _,Uc 5 30 _,Uc 6 31 (Qi (.pointer (some ⟨l.b,0+((q2.k:Int)).toNat*3,none⟩)))] (.u none [(7,Zo (Ye q2.H l.b q2.k (Zr ((0:Int):Rat))))] .z) (.kkkk (.kkk .z)) ⟨mv,mv,Qs (.tmp 7 rfl rfl) (.tmp 8 rfl rfl) Qy (by omega) (by omega) (by kernel_rfl) (.here 9 rfl),Yv (e:=⟨g,1,false,Vf R2⟩) (idx:=q.k) 0 rfl rfl rfl (by kernel_rfl) rfl (.tmp 9 rfl rfl) hB2.top rfl (hB2.hd (by omega) hr) (show 0+((q.k:Int)).toNat*1=q.k*1 by omega) Jt (.here 10 rfl),mv,ce1 (X3 _) (Qce 0 (by omega) (by omega)),Qs (.tmp 10 rfl rfl) (.tmp 11 rfl rfl) Xz (by omega) (by omega) (by kernel_rfl) (.here 13 rfl),Zn (e:=⟨l.b,3,true,(Qaw m (fun _ _=>Zr 0) q.k q2.k) q.k⟩) (idx:=q2.k) (it:=Zr (((0:Int):Rat))) 0 rfl rfl rfl (by kernel_rfl) 0 rfl (by kernel_rfl) (by kernel_rfl) rfl (.tmp 13 rfl rfl) (hB2.rows q.k l (by omega) hr).2.2.2.1 rfl (by rw[fill_len]; omega) (show 0+((q2.k:Int)).toNat*3=q2.k*3 by omega) Yc (.tmp 12 rfl rfl) (Xt _),trivial⟩ (.s .o .z) (.kkkk (.kkdd (.dddd (.dd .z)))) fun a w hI=>?_
     refine Xo ?_
     refine Qb ?_
     refine Z3 hI 3 [] [] [Uc 0 23 _,Uc 1 24 _,Uc 2 7 _] (.k .z) (.kkkk (.k (.t 2 .z))) ⟨mv,bl,mv,trivial⟩ (.k .z) (.kkkk (.kddd (.k .z))) fun a w hI=>?_
     refine Qb ?_
     exact⟨⟨q2.k+1,R2,Ye q2.H l.b q2.k (Zr ((0:Int):Rat))⟩,⟨⟨by show q2.k+1≤m; omega,(hB2.set (k:=q2.k) (it:=Zr ((0:Int):Rat)) (by omega) hr).congr fun i _=>fill_step (f:=(fun _ _=>Zr 0)) (by omega) i⟩,(hI.conv ⟨⟨0,_,_,rfl,⟨rfl,rfl,rfl⟩,rfl,fun _=>fun _ _ h=>h⟩,trivial⟩ ⟨⟨rfl,rfl,0,_,rfl,fun _ _ h=>h⟩,⟨rfl,rfl,1,_,rfl,fun _ _ h=>h⟩,⟨rfl,rfl,2,_,rfl,fun _ _ h=>h⟩,⟨rfl,rfl,3,_,rfl,fun _ _ h=>h⟩,⟨rfl,rfl,4,_,rfl,fun _ _ h=>h⟩,⟨rfl,rfl,5,_,rfl,(Qw (by show((q2.k:Int)+1)=((q2.k+1:Nat):Int); omega))⟩,trivial⟩)⟩,(show m-(q2.k+1)<m-q2.k by omega)⟩
    ·have t3:=of_decide_eq_false ht
     refine wp_exit ?_
     refine Ql ?_
     refine Ql ?_
     refine Q7 ?_
     refine Xo ?_
     refine Qb ?_
     refine Z3 hI 3 [] [] [Uc 0 13 _,Uc 1 14 _,Uc 2 6 _] (.k .z) (.kkkk (.t 2 (.kk .z))) ⟨mv,bl,mv,trivial⟩ (.k .z) (.kkkk (.dddd (.dk .z))) fun a w hI=>?_
     refine Qb ?_
     replace hI:=hI.reobj 9 9 (n0:=0) rfl (by kernel_rfl) (by kernel_rfl)
     exact⟨⟨q.k+1,R2,q2.H⟩,⟨⟨by show q.k+1≤n; omega,hB2.congr fun i _=>by rw[show q2.k=m by omega]; exact fill_end i⟩,(hI.conv ⟨⟨0,_,_,rfl,⟨rfl,rfl,rfl⟩,rfl,fun _=>fun _ _ h=>h⟩,trivial⟩ ⟨⟨rfl,rfl,0,_,rfl,fun _ _ h=>h⟩,⟨rfl,rfl,1,_,rfl,fun _ _ h=>h⟩,⟨rfl,rfl,2,_,rfl,fun _ _ h=>h⟩,⟨rfl,rfl,3,_,rfl,fun _ _ h=>h⟩,⟨rfl,rfl,4,_,rfl,(Qw (by show((q.k:Int)+1)=((q.k+1:Nat):Int); omega))⟩,trivial⟩)⟩,(show n-(q.k+1)<n-q.k by omega)⟩
  ·have t4:=of_decide_eq_false ht
   refine wp_exit ?_
   refine Ql ?_
   refine Ql ?_
   refine Q7 ?_
   refine Qb ?_
   refine Q3 hI 2 [] [] [Uc 0 32 _,Uc 1 4 _] (.k .z) (.kk (.t 1 (.kkk .z))) ⟨mv,mv,trivial⟩ (.k .z) (.dddd (.dddk .z)) fun a w hI=>?_
   refine wp_ret ?_
   exact finO1 (hd:=GridL.hd n) (Hl:=GridL.H) (⟨g,q.R,q.H⟩:GridL) (hB.congr fun i hi=>by rw[show q.k=n by omega]; exact part_end i hi) hI rfl (n0:=0) rfl (.tmp 0 rfl)
theorem sT_bits {j n J:Nat} (h:j<n) (hj:(n+1)*(J+1)≤2000000):1+j*(J+1)+J+(1+j*(J+1))+J+1≤10000000:=by
 have h1:=Nat.mul_le_mul_right (J+1) (show j+2≤n+1 by omega)
 have h2:(j+2)*(J+1)=j*(J+1)+(J+1)+(J+1):=by rw[Nat.add_mul]; omega
 omega
theorem bd_sT {A B:List (List Rat)} {j1 j2 i k:Nat} (hA:BdX j1 A) (hB:BdX j2 B):∀j,BdR (1+j*(j1+j2+1)) (sT A B i k j)
 |0=>by rw[Nat.zero_mul]; exact bd_zero
 |j+1=>((bd_sT hA hB j).add_t ((hA i j).mul (hB j k))).mono (by rw[Nat.succ_mul]; omega)
theorem tF_fin {A B:List (List Rat)} {i k:Nat} (hi:i<A.length) (hk:k<(B.getD 0 []).length) (hf:B.length=(A.getD 0 []).length) (hr:∀i,i<A.length→(A.getD i []).length=(A.getD 0 []).length):tF A B A.length 0 0 i k=Zr (((Je A (Qq B)).getD i []).getD k 0):=by
 unfold tF
 rw[if_pos (by omega),Qbo hi,Qcl (by rw[Yu]; exact hk),We hk,hr i hi,← hf,sT_dot _ (Nat.le_refl _)]
theorem Qh9 {A B:List (List Rat)} {j1 j2:Nat} (hA:Right A) (hB:Right B) (hf:B.length=(A.getD 0 []).length) (hAb:BdX j1 A) (hBb:BdX j2 B) (hj:(B.length+1)*(j1+j2+1)≤2000000):∀(M:Nat→Nat→Prop) (w:World) (v0 v1:Value),Mid M w→Box M (fun w=>(Qc 1 false A.length (fun i=>Qk (A.getD i []))) w v0) w→Box M (fun w=>(Qc 1 false B.length (fun i=>Qk (B.getD i []))) w v1) w→Calls Tryz.prog 15 #[v0,v1] w (RetB M (Xr (Qc 1 false A.length (fun i=>Qk ((Je A (Qq B)).getD i []))) (pI 0)) w):=by
 intro M w0 v0 v1 hM hv0 hv1
 have hrA:=hA.rows
 have hcA:=hA.cols
 have hrB:=hB.rows
 have hcB:=hB.cols
 have hAr:=hA.rect
 have hBr:=hB.rect
 have hj1:j1+j2+1≤2000000:=Nat.le_trans (Nat.le_trans (Nat.le_of_eq (Nat.one_mul _).symm) (Nat.mul_le_mul_right _ (by omega))) hj
 refine Yk (N:=86) Tryz.func15 rfl rfl rfl hM (show EntsA M w0 [v0,v1] [⟨none,none,0,Qc 1 false A.length (fun i=>Qk (A.getD i []))⟩,⟨none,none,1,Qc 1 false B.length (fun i=>Qk (B.getD i []))⟩]from⟨⟨rfl,_,rfl,hv0⟩,⟨rfl,_,rfl,hv1⟩,trivial⟩) fun a hI=>?_
 refine Qj hI 2 [Uc 0 4 _,Uc 1 5 _] (.kk .z) ⟨mv,mv,trivial⟩ (.kkkk .z) fun a w hI=>?_
 refine wp_seq ?_
 refine Qj hI 3 [Uc 0 12 _,Uc 1 13 _,Uc 2 6 _] (.kkkk .z) ⟨mv,Z0 ((by have h:=Qcq (A:=A) (by omega); rw[chk_ok hA]at h; exact h)) (Ya rfl),mv,trivial⟩ (.kkkk (.ddk .z)) fun a w hI=>?_
 refine Qj hI 2 [Uc 0 14 _,Uc 1 15 (pB false)] (.kkkk (.k .z)) ⟨mv,Q6 (v:=.bool (false)) (.tmp 5 rfl rfl) (.const _) (fun _=>rfl) (.here 6 rfl),trivial⟩ (.kkkk (.kdk .z)) fun a w hI=>?_
 refine Xv hI 5 rfl ?_
 refine wp_skip ?_
 refine Qb ?_
 refine wp_seq ?_
 refine Qj hI 3 [Uc 0 17 _,Uc 1 18 _,Uc 2 7 _] (.kkkk (.kk .z)) ⟨mv,Z0 ((by have h:=Qcq (A:=B) (by omega); rw[chk_ok hB]at h; exact h)) (Ya rfl),mv,trivial⟩ (.kkkk (.dddd (.k .z))) fun a w hI=>?_
 refine Qj hI 2 [Uc 0 19 _,Uc 1 20 (pB false)] (.kkkk (.k .z)) ⟨mv,Q6 (v:=.bool (false)) (.tmp 5 rfl rfl) (.const _) (fun _=>rfl) (.here 6 rfl),trivial⟩ (.kkkk (.kdk .z)) fun a w hI=>?_
 refine Xv hI 5 rfl ?_
 refine wp_skip ?_
 refine Qb ?_
 refine wp_seq ?_
 refine Qj hI 7 [Uc 0 22 _,Uc 1 23 (pI (B.length:Int)),Uc 2 24 _,Uc 3 25 _,Uc 4 26 (Qk (A.getD 0 [])),Uc 5 27 (pI ((A.getD 0 []).length:Int)),Uc 6 28 (pB false)] (.kkkk (.kk .z)) ⟨mv,Qm (.tmp 6 rfl rfl) (Qy).under (.here 7 rfl),mv,ixL Qy,Q5 (.tmp 9 rfl rfl) Jt ((Zb _)) (.here 10 rfl),Qm (.tmp 10 rfl rfl) (Xz).under (.here 11 rfl),Q6 (v:=.bool (((B.length:Int) != ((A.getD 0 []).length:Int)))) (.tmp 7 rfl rfl) (.tmp 11 rfl rfl) (fun _=>rfl) (.at_ 12 _ _ rfl (Yt ((by rw[hf]; exact bne_self_eq_false _)))),trivial⟩ (.kkkk (.d8 (.k .z))) fun a w hI=>?_
 refine Xv hI 4 rfl ?_
 refine wp_skip ?_
 refine Qb ?_
 refine Vz hI [] [] [⟨some 0,none,29,Qc 1 false A.length (fun i=>Qk (A.getD i []))⟩,⟨some 1,none,30,pI (A.length:Int)⟩,⟨some 2,none,31,Qc 1 false B.length (fun i=>Qk (B.getD i []))⟩,⟨some 3,none,32,Wr 1 false (Qk (B.getD 0 []))⟩,⟨some 4,none,33,Qk (B.getD 0 [])⟩,⟨some 5,none,34,pI ((B.getD 0 []).length:Int)⟩] .z (.kkkk (.k .z)) rfl [0,1,3,7,15,31,63,127] 6 (by kernel_rfl) ?_ .z (.kkkk (.ddkd (.ddk .z))) (fun a w hI=>hI) (⟨_,fun a w hI=>Qbb 35 (fun _ _=>by kernel_rfl) hI (.tmp 4 rfl rfl) (.tmp 5 rfl rfl) (fun M w v1 v2 hM h1 h2=>Qe5 (n:=A.length) (m:=(B.getD 0 []).length) (by omega) (by omega) M w v1 v2 hM h1 h2) (by kernel_rfl) (by kernel_rfl) (by kernel_rfl),
   _,U2 fun l hC a w hI=>Jw hI [] [⟨some 0,none,8,Qi (.slice (some ⟨l.g,0,none⟩) A.length A.length)⟩] (.k .z) (.kkkk (.kkk .z)) (by kernel_rfl) (Ys (.tmp 0 rfl rfl) (.here 7 rfl)) (.k .z) (.dkkk (.kddk .z)),
   rfl⟩) ?_
 ·exact⟨Qx (.tmp 0 rfl rfl) (.here 5 rfl),Qm (.tmp 5 rfl rfl) (Qy).under (.here 6 rfl),Qx (.tmp 1 rfl rfl) (.here 7 rfl),Jo (.tmp 7 rfl rfl) (.const _) Qy (by omega) (by omega) (by kernel_rfl) (.here 8 rfl),Q5 (.tmp 8 rfl rfl) Jt ((Zb _)) (.here 9 rfl),Qm (.tmp 9 rfl rfl) (Xz).under (.here 10 rfl),trivial⟩
 ·rintro a w ⟨z,hC,hI⟩
  have hC:GridOk 3 true z.g A.length z.R (X9 (B.getD 0 []).length (fun _ _=>Zr 0)) z.H:=hC
  refine wp_seq ?_
  refine Q3 hI 1 [] [] [Uc 0 9 _] (.k .z) (.kkkk (.k .z)) ⟨mv,trivial⟩ (.k .z) (.kkkk (.kk .z)) fun a w hI=>?_
  refine wp_block ?_
  refine Q9 (fun(q:GI) a w=>(q.k≤A.length∧GridOk 3 true z.g A.length z.R (X9 (B.getD 0 []).length (tF A B q.k 0 0)) q.H)∧Inv ⟨86,w0,M,fun _=>False⟩ [⟨35,35,none,none,.obj,0,0,false,Zo q.H,[]⟩] [] [⟨none,none,0,Qc 1 false A.length (fun i=>Qk (A.getD i []))⟩,⟨none,none,1,Qc 1 false B.length (fun i=>Qk (B.getD i []))⟩,⟨none,none,4,Qi ((Value.slice none 0 0))⟩,⟨none,none,5,pI 0⟩,⟨none,none,8,Qi (.slice (some ⟨z.g,0,none⟩) A.length A.length)⟩,⟨none,none,9,pI (q.k:Int)⟩] Qf a w) (fun(q:GI)=>A.length-q.k) (⟨0,z.R,z.H⟩) ⟨⟨Nat.zero_le _,hC.congr fun i _=>tF_zero i⟩,(hI.conv ⟨⟨0,_,_,rfl,⟨rfl,rfl,rfl⟩,rfl,fun _=>(fun _ _ h=>h)⟩,trivial⟩ ⟨⟨rfl,rfl,0,_,rfl,fun _ _ h=>h⟩,⟨rfl,rfl,1,_,rfl,fun _ _ h=>h⟩,⟨rfl,rfl,2,_,rfl,fun _ _ h=>h⟩,⟨rfl,rfl,3,_,rfl,fun _ _ h=>h⟩,⟨rfl,rfl,4,_,rfl,fun _ _ h=>h⟩,⟨rfl,rfl,5,_,rfl,(Qw rfl)⟩,trivial⟩)⟩ ?_
  intro q a w hIk
  obtain⟨⟨hk,hB1⟩,hI⟩:=hIk
  refine wp_seq ?_
  refine Q3 hI 4 [] [] [Uc 0 36 _,Uc 1 37 _,Uc 2 38 (pI (A.length:Int)),Uc 3 39 _] (.k .z) (.kkkk (.kk .z)) ⟨mv,mv,Qm (.tmp 7 rfl rfl) (Qy).under (.here 8 rfl),bl,trivial⟩ (.k .z) (.kkkk (.kkdd (.dk .z))) fun a w hI=>?_
  refine Xa hI 6 rfl (fun ht=>?_) (fun ht=>?_)
  ·have t1:=of_decide_eq_true ht
   refine wp_skip ?_
   refine Qb ?_
   refine wp_seq ?_
   refine wp_block ?_
   refine Q3 hI 1 [] [] [Uc 0 10 _] (.k .z) (.kkkk (.kkk .z)) ⟨mv,trivial⟩ (.k .z) (.kkkk (.kkdk .z)) fun a w hI=>?_
   refine wp_block ?_
   refine Q9 (fun(q2:GI) a w=>(q2.k≤(B.getD 0 []).length∧GridOk 3 true z.g A.length z.R (X9 (B.getD 0 []).length (tF A B q.k q2.k 0)) q2.H)∧Inv ⟨86,w0,M,fun _=>False⟩ [⟨35,35,none,none,.obj,0,0,false,Zo q2.H,[]⟩] [] [⟨none,none,0,Qc 1 false A.length (fun i=>Qk (A.getD i []))⟩,⟨none,none,1,Qc 1 false B.length (fun i=>Qk (B.getD i []))⟩,⟨none,none,4,Qi ((Value.slice none 0 0))⟩,⟨none,none,5,pI 0⟩,⟨none,none,8,Qi (.slice (some ⟨z.g,0,none⟩) A.length A.length)⟩,⟨none,none,9,pI (q.k:Int)⟩,⟨none,none,10,pI (q2.k:Int)⟩] Qf a w) (fun(q2:GI)=>(B.getD 0 []).length-q2.k) (⟨0,z.R,q.H⟩) ⟨⟨Nat.zero_le _,hB1⟩,(hI.conv ⟨⟨0,_,_,rfl,⟨rfl,rfl,rfl⟩,rfl,fun _=>(fun _ _ h=>h)⟩,trivial⟩ ⟨⟨rfl,rfl,0,_,rfl,fun _ _ h=>h⟩,⟨rfl,rfl,1,_,rfl,fun _ _ h=>h⟩,⟨rfl,rfl,2,_,rfl,fun _ _ h=>h⟩,⟨rfl,rfl,3,_,rfl,fun _ _ h=>h⟩,⟨rfl,rfl,4,_,rfl,fun _ _ h=>h⟩,⟨rfl,rfl,5,_,rfl,fun _ _ h=>h⟩,⟨rfl,rfl,6,_,rfl,(Qw rfl)⟩,trivial⟩)⟩ ?_
   intro q2 a w hIk
   obtain⟨⟨hk2,hB2⟩,hI⟩:=hIk
   refine wp_seq ?_
   refine Q3 hI 6 [] [] [Uc 0 42 _,Uc 1 43 _,Uc 2 44 _,Uc 3 45 (Qk (B.getD 0 [])),Uc 4 46 (pI ((B.getD 0 []).length:Int)),Uc 5 47 _] (.k .z) (.kkkk (.kkk .z)) ⟨mv,mv,ixL Qy,Q5 (.tmp 9 rfl rfl) Jt ((Zb _)) (.here 10 rfl),Qm (.tmp 10 rfl rfl) (Xz).under (.here 11 rfl),bl,trivial⟩ (.k .z) (.kkkk (.kkkd (.dddd (.k .z)))) fun a w hI=>?_
   refine Xa hI 7 rfl (fun ht=>?_) (fun ht=>?_)
   ·have t2:=of_decide_eq_true ht
    refine wp_skip ?_
    refine Qb ?_
    refine wp_seq ?_
    refine wp_block ?_
    refine Q3 hI 1 [] [] [Uc 0 11 _] (.k .z) (.k8 .z) ⟨mv,trivial⟩ (.k .z) (.kkkk (.kkkd (.k .z))) fun a w hI=>?_
    refine wp_block ?_
    refine Q9 (fun(q3:GI) a w=>(q3.k≤B.length∧GridOk 3 true z.g A.length z.R (X9 (B.getD 0 []).length (tF A B q.k q2.k q3.k)) q3.H)∧Inv ⟨86,w0,M,fun _=>False⟩ [⟨35,35,none,none,.obj,0,0,false,Zo q3.H,[]⟩] [] [⟨none,none,0,Qc 1 false A.length (fun i=>Qk (A.getD i []))⟩,⟨none,none,1,Qc 1 false B.length (fun i=>Qk (B.getD i []))⟩,⟨none,none,4,Qi ((Value.slice none 0 0))⟩,⟨none,none,5,pI 0⟩,⟨none,none,8,Qi (.slice (some ⟨z.g,0,none⟩) A.length A.length)⟩,⟨none,none,9,pI (q.k:Int)⟩,⟨none,none,10,pI (q2.k:Int)⟩,⟨none,none,11,pI (q3.k:Int)⟩] Qf a w) (fun(q3:GI)=>B.length-q3.k) (⟨0,z.R,q2.H⟩) ⟨⟨Nat.zero_le _,hB2⟩,(hI.conv ⟨⟨0,_,_,rfl,⟨rfl,rfl,rfl⟩,rfl,fun _=>(fun _ _ h=>h)⟩,trivial⟩ ⟨⟨rfl,rfl,0,_,rfl,fun _ _ h=>h⟩,⟨rfl,rfl,1,_,rfl,fun _ _ h=>h⟩,⟨rfl,rfl,2,_,rfl,fun _ _ h=>h⟩,⟨rfl,rfl,3,_,rfl,fun _ _ h=>h⟩,⟨rfl,rfl,4,_,rfl,fun _ _ h=>h⟩,⟨rfl,rfl,5,_,rfl,fun _ _ h=>h⟩,⟨rfl,rfl,6,_,rfl,fun _ _ h=>h⟩,⟨rfl,rfl,7,_,rfl,(Qw rfl)⟩,trivial⟩)⟩ ?_
    intro q3 a w hIk
    obtain⟨⟨hk3,hB3⟩,hI⟩:=hIk
    refine wp_seq ?_
    refine Q3 hI 4 [] [] [Uc 0 50 _,Uc 1 51 _,Uc 2 52 (pI (B.length:Int)),Uc 3 53 _] (.k .z) (.k8 .z) ⟨mv,mv,Qm (.tmp 9 rfl rfl) (Qy).under (.here 10 rfl),bl,trivial⟩ (.k .z) (.k8 (.dddk .z)) fun a w hI=>?_
    refine Xa hI 8 rfl (fun ht=>?_) (fun ht=>?_)
    ·have t3:=of_decide_eq_true ht
     refine wp_skip ?_
     refine Qb ?_
     refine wp_seq ?_
     refine wp_block ?_
     obtain⟨r,hr⟩:=hB3.at_ (i:=q.k) (by omega) (by rw[Zd]; omega)
     have hrn:=(hB3.rows q.k r (by omega) hr).1
     rw[Zd]at hrn
     have hra:=hAr q.k (by omega)
     have hrb:=hBr q3.k (by omega)
     refine srD hI [0,0,3,7,0,0,0,96,224,0,992,2016,0,0,12288,28672,0,126976,258048,0,0,1572864,3670016,0,16252928,33030144,67104768,134217696,268435455,536870911] [] [] [Uc 0 56 _,Uc 1 57 _,Uc 2 58 (Qi (.pointer (some ⟨z.g,0+((q.k:Int)).toNat*1,none⟩))),Uc 3 59 (Qi (.slice (some ⟨r.b,0,none⟩) r.n r.cap)),Uc 4 60 _,Uc 5 61 _,Uc 6 62 _,Uc 7 63 (Qi (.pointer (some ⟨z.g,0+((q.k:Int)).toNat*1,none⟩))),Uc 8 64 (Qi (.slice (some ⟨r.b,0,none⟩) r.n r.cap)),Uc 9 65 _,Uc 10 66 (Qi (.pointer (some ⟨r.b,0+((q2.k:Int)).toNat*3,none⟩))),Uc 11 67 (Qr (sT A B q.k q2.k q3.k)),Uc 12 68 _,Uc 13 69 _,Uc 14 70 _,Uc 15 71 (Qk (A.getD q.k [])),Uc 16 72 _,Uc 17 73 _,Uc 18 74 (Qr ((A.getD q.k []).getD q3.k 0)),Uc 19 75 _,Uc 20 76 _,Uc 21 77 _,Uc 22 78 (Qk (B.getD q3.k [])),Uc 23 79 _,Uc 24 80 _,Uc 25 81 (Qr ((B.getD q3.k []).getD q2.k 0)),Uc 26 82 _,Uc 27 83 _,Uc 28 84 (Qi (.pointer (some ⟨r.b,0+((q2.k:Int)).toNat*3,none⟩)))] (.u none [(29,Zo (Ye q3.H r.b q2.k (Zr (sT A B q.k q2.k q3.k+(A.getD q.k []).getD q3.k 0*(B.getD q3.k []).getD q2.k 0))))] .z) (.k8 (.k .z)) ⟨mv,mv,Qs (.tmp 9 rfl rfl) (.tmp 10 rfl rfl) Qy (by omega) (by omega) (by kernel_rfl) (.here 11 rfl),Yv (e:=⟨z.g,1,false,Vf z.R⟩) (idx:=q.k) 0 rfl rfl rfl (by kernel_rfl) rfl (.tmp 11 rfl rfl) hB3.top rfl (hB3.hd (by omega) hr) (show 0+((q.k:Int)).toNat*1=q.k*1 by omega) Jt (.here 12 rfl),mv,mv,mv,Qs (.tmp 14 rfl rfl) (.tmp 15 rfl rfl) Qy (by omega) (by omega) (by kernel_rfl) (.here 16 rfl),Yv (e:=⟨z.g,1,false,Vf z.R⟩) (idx:=q.k) 0 rfl rfl rfl (by kernel_rfl) rfl (.tmp 16 rfl rfl) hB3.top rfl (hB3.hd (by omega) hr) (show 0+((q.k:Int)).toNat*1=q.k*1 by omega) Jt (.here 17 rfl),mv,Qs (.tmp 17 rfl rfl) (.tmp 18 rfl rfl) Xz (by omega) (by omega) (by kernel_rfl) (.here 19 rfl),Yv (e:=⟨r.b,3,true,X9 (B.getD 0 []).length (tF A B q.k q2.k q3.k) q.k⟩) (idx:=q2.k) 0 rfl rfl rfl (by kernel_rfl) rfl (.tmp 19 rfl rfl) (hB3.rows q.k r (by omega) hr).2.2.2.1 rfl ((Qfo (by omega)).trans (congrArg some tF_at)) (show 0+((q2.k:Int)).toNat*3=q2.k*3 by omega) Yc (.here 20 rfl),mv,mv,Ky Qy,Q5 (.tmp 23 rfl rfl) Jt ((Zb _)) (.here 24 rfl),mv,Ky Xz,Q5 (.tmp 26 rfl rfl) Yc (Xt _) (.here 27 rfl),mv,mv,Ky Qy,Q5 (.tmp 30 rfl rfl) Jt ((Zb _)) (.here 31 rfl),mv,Ky Xz,Q5 (.tmp 33 rfl rfl) Yc (Xt _) (.here 34 rfl),ce2 (X3 _) (cn_mul (hAb q.k q3.k) (hBb q3.k q2.k) (by omega)),ce2 (X3 _) (cn_add (bd_sT hAb hBb q3.k) ((hAb q.k q3.k).mul (hBb q3.k q2.k)) (sT_bits (show q3.k<B.length by omega) hj)) (Ya rfl) (Ya rfl),Qs (.tmp 12 rfl rfl) (.tmp 13 rfl rfl) Xz (by omega) (by omega) (by kernel_rfl) (.here 37 rfl),Zn (e:=⟨r.b,3,true,X9 (B.getD 0 []).length (tF A B q.k q2.k q3.k) q.k⟩) (idx:=q2.k) (it:=Zr (sT A B q.k q2.k q3.k+(A.getD q.k []).getD q3.k 0*(B.getD q3.k []).getD q2.k 0)) 0 rfl rfl rfl (by kernel_rfl) 0 rfl (by kernel_rfl) (by kernel_rfl) rfl (.tmp 37 rfl rfl) (hB3.rows q.k r (by omega) hr).2.2.2.1 rfl (by rw[Zd]; omega) (show 0+((q2.k:Int)).toNat*3=q2.k*3 by omega) Yc (.tmp 36 rfl rfl) (Xt _),trivial⟩ (.s .o .z) (.k8 (.d8 (.d8 (.d8 (.dddd (.dd .z)))))) fun a w hI=>?_
     refine Xo ?_
     refine Qb ?_
     refine Z3 hI 3 [] [] [Uc 0 54 _,Uc 1 55 _,Uc 2 11 _] (.k .z) (.kkkk (.kkk (.t 2 .z))) ⟨mv,bl,mv,trivial⟩ (.k .z) (.kkkk (.kkkd (.ddk .z))) fun a w hI=>?_
     refine Qb ?_
     exact⟨⟨q3.k+1,z.R,Ye q3.H r.b q2.k (Zr (sT A B q.k q2.k q3.k+(A.getD q.k []).getD q3.k 0*(B.getD q3.k []).getD q2.k 0))⟩,⟨⟨by show q3.k+1≤B.length; omega,(hB3.set (k:=q2.k) (it:=Zr (sT A B q.k q2.k q3.k+(A.getD q.k []).getD q3.k 0*(B.getD q3.k []).getD q2.k 0)) (by omega) hr).congr fun i _=>(Qdl i).trans (by rw[tF_step])⟩,(hI.conv ⟨⟨0,_,_,rfl,⟨rfl,rfl,rfl⟩,rfl,fun _=>fun _ _ h=>h⟩,trivial⟩ ⟨⟨rfl,rfl,0,_,rfl,fun _ _ h=>h⟩,⟨rfl,rfl,1,_,rfl,fun _ _ h=>h⟩,⟨rfl,rfl,2,_,rfl,fun _ _ h=>h⟩,⟨rfl,rfl,3,_,rfl,fun _ _ h=>h⟩,⟨rfl,rfl,4,_,rfl,fun _ _ h=>h⟩,⟨rfl,rfl,5,_,rfl,fun _ _ h=>h⟩,⟨rfl,rfl,6,_,rfl,fun _ _ h=>h⟩,⟨rfl,rfl,7,_,rfl,(Qw (by show((q3.k:Int)+1)=((q3.k+1:Nat):Int); omega))⟩,trivial⟩)⟩,(show B.length-(q3.k+1)<B.length-q3.k by omega)⟩
    ·have t4:=of_decide_eq_false ht
     refine wp_exit ?_
     refine Ql ?_
     refine Ql ?_
     refine Q7 ?_
     refine Xo ?_
     refine Qb ?_
     refine Z3 hI 3 [] [] [Uc 0 48 _,Uc 1 49 _,Uc 2 10 _] (.k .z) (.kkkk (.kk (.t 2 (.kk .z)))) ⟨mv,bl,mv,trivial⟩ (.k .z) (.kkkk (.kkdd (.dddk .z))) fun a w hI=>?_
     refine Qb ?_
     exact⟨⟨q2.k+1,z.R,q3.H⟩,⟨⟨by show q2.k+1≤(B.getD 0 []).length; omega,by rw[show q3.k=B.length by omega,tF_next]at hB3; exact hB3⟩,(hI.conv ⟨⟨0,_,_,rfl,⟨rfl,rfl,rfl⟩,rfl,fun _=>fun _ _ h=>h⟩,trivial⟩ ⟨⟨rfl,rfl,0,_,rfl,fun _ _ h=>h⟩,⟨rfl,rfl,1,_,rfl,fun _ _ h=>h⟩,⟨rfl,rfl,2,_,rfl,fun _ _ h=>h⟩,⟨rfl,rfl,3,_,rfl,fun _ _ h=>h⟩,⟨rfl,rfl,4,_,rfl,fun _ _ h=>h⟩,⟨rfl,rfl,5,_,rfl,fun _ _ h=>h⟩,⟨rfl,rfl,6,_,rfl,(Qw (by show((q2.k:Int)+1)=((q2.k+1:Nat):Int); omega))⟩,trivial⟩)⟩,(show(B.getD 0 []).length-(q2.k+1)<(B.getD 0 []).length-q2.k by omega)⟩
   ·have t5:=of_decide_eq_false ht
    refine wp_exit ?_
    refine Ql ?_
    refine Ql ?_
    refine Q7 ?_
    refine Xo ?_
    refine Qb ?_
    refine Z3 hI 3 [] [] [Uc 0 40 _,Uc 1 41 _,Uc 2 9 _] (.k .z) (.kkkk (.k (.t 2 (.kk .z)))) ⟨mv,bl,mv,trivial⟩ (.k .z) (.kkkk (.kddd (.ddk .z))) fun a w hI=>?_
    refine Qb ?_
    exact⟨⟨q.k+1,z.R,q2.H⟩,⟨⟨by show q.k+1≤A.length; omega,by rw[show q2.k=(B.getD 0 []).length by omega]at hB2; exact hB2.congr fun i _=>tF_row i⟩,(hI.conv ⟨⟨0,_,_,rfl,⟨rfl,rfl,rfl⟩,rfl,fun _=>fun _ _ h=>h⟩,trivial⟩ ⟨⟨rfl,rfl,0,_,rfl,fun _ _ h=>h⟩,⟨rfl,rfl,1,_,rfl,fun _ _ h=>h⟩,⟨rfl,rfl,2,_,rfl,fun _ _ h=>h⟩,⟨rfl,rfl,3,_,rfl,fun _ _ h=>h⟩,⟨rfl,rfl,4,_,rfl,fun _ _ h=>h⟩,⟨rfl,rfl,5,_,rfl,(Qw (by show((q.k:Int)+1)=((q.k+1:Nat):Int); omega))⟩,trivial⟩)⟩,(show A.length-(q.k+1)<A.length-q.k by omega)⟩
  ·have t6:=of_decide_eq_false ht
   refine wp_exit ?_
   refine Ql ?_
   refine Ql ?_
   refine Q7 ?_
   refine Qb ?_
   refine Q3 hI 3 [] [] [Uc 0 85 _,Uc 1 4 _,Uc 2 5 _] (.k .z) (.kk (.t 1 (.t 2 (.kkk .z)))) ⟨mv,mv,mv,trivial⟩ (.k .z) (.d8 (.kk .z)) fun a w hI=>?_
   refine wp_ret ?_
   exact finObj2 hI rfl (n0:=0) rfl (.tmp 0 rfl) (.tmp 1 rfl) (p:=Qc 1 false A.length (fun i=>Qk ((Je A (Qq B)).getD i []))) (fun B' w hH=>Qfm (fun i hi=>by rw[Qbo hi,Qcm,Yu]) (fun i k hi hk=>by rw[show q.k=A.length by omega]; exact tF_fin hi hk hf hAr) w _ (hB1.read (Nat.le_refl _) (by omega) B' w hH))
theorem uF_fin {A:List (List Rat)} {i k:Nat} (hi:i<(A.getD 0 []).length) (hk:k<A.length):uF A A.length 0 i k=Zr (((Qq A).getD i []).getD k 0):=by
 unfold uF
 rw[if_pos (by omega),We hi,Ur hk]
theorem Qbj {A:List (List Rat)} (hA:Right A):∀(M:Nat→Nat→Prop) (w:World) (v0:Value),Mid M w→Box M (fun w=>(Qc 1 false A.length (fun i=>Qk (A.getD i []))) w v0) w→Calls Tryz.prog 17 #[v0] w (RetB M (Xr (Qc 1 false (A.getD 0 []).length (fun i=>Qk ((Qq A).getD i []))) (pI 0)) w):=by
 intro M w0 v0 hM hv0
 have hrA:=hA.rows
 have hcA:=hA.cols
 have hAr:=hA.rect
 refine Yk (N:=48) Tryz.func17 rfl rfl rfl hM (show EntsA M w0 [v0] [⟨none,none,0,Qc 1 false A.length (fun i=>Qk (A.getD i []))⟩]from⟨⟨rfl,_,rfl,hv0⟩,trivial⟩) fun a hI=>?_
 refine Qj hI 2 [Uc 0 2 _,Uc 1 3 _] (.k .z) ⟨mv,mv,trivial⟩ (.kkk .z) fun a w hI=>?_
 refine wp_seq ?_
 refine Qj hI 3 [Uc 0 8 _,Uc 1 9 _,Uc 2 4 _] (.kkk .z) ⟨mv,Z0 ((by have h:=Qcq (A:=A) (by omega); rw[chk_ok hA]at h; exact h)) (Ya rfl),mv,trivial⟩ (.kkkd (.dk .z)) fun a w hI=>?_
 refine Qj hI 2 [Uc 0 10 _,Uc 1 11 (pB false)] (.kkkk .z) ⟨mv,Q6 (v:=.bool (false)) (.tmp 4 rfl rfl) (.const _) (fun _=>rfl) (.here 5 rfl),trivial⟩ (.kkkk (.dk .z)) fun a w hI=>?_
 refine Xv hI 4 rfl ?_
 refine wp_skip ?_
 refine Qb ?_
 refine Vz hI [] [] [⟨some 0,none,13,Qc 1 false A.length (fun i=>Qk (A.getD i []))⟩,⟨some 1,none,14,Wr 1 false (Qk (A.getD 0 []))⟩,⟨some 2,none,15,Qk (A.getD 0 [])⟩,⟨some 3,none,16,pI ((A.getD 0 []).length:Int)⟩,⟨some 4,none,17,Qc 1 false A.length (fun i=>Qk (A.getD i []))⟩,⟨some 5,none,18,pI (A.length:Int)⟩] .z (.kkkk (.k .z)) rfl [0,1,3,7,15,31,63,127] 6 (by kernel_rfl) ?_ .z (.kkkd (.dddd (.kdk .z))) (fun a w hI=>hI) (⟨_,fun a w hI=>Qbb 19 (fun _ _=>by kernel_rfl) hI (.tmp 3 rfl rfl) (.tmp 4 rfl rfl) (fun M w v1 v2 hM h1 h2=>Qe5 (n:=(A.getD 0 []).length) (m:=A.length) (by omega) (by omega) M w v1 v2 hM h1 h2) (by kernel_rfl) (by kernel_rfl) (by kernel_rfl),
   _,U2 fun l hC a w hI=>Jw hI [] [⟨some 0,none,5,Qi (.slice (some ⟨l.g,0,none⟩) ((A.getD 0 []).length) ((A.getD 0 []).length))⟩] (.k .z) (.kkkk (.kk .z)) (by kernel_rfl) (Ys (.tmp 0 rfl rfl) (.here 6 rfl)) (.k .z) (.dkkk (.ddk .z)),
   rfl⟩) ?_
 ·exact⟨Qx (.tmp 0 rfl rfl) (.here 5 rfl),Jo (.tmp 5 rfl rfl) (.const _) Qy (by omega) (by omega) (by kernel_rfl) (.here 6 rfl),Q5 (.tmp 6 rfl rfl) Jt ((Zb _)) (.here 7 rfl),Qm (.tmp 7 rfl rfl) (Xz).under (.here 8 rfl),Qx (.tmp 0 rfl rfl) (.here 9 rfl),Qm (.tmp 9 rfl rfl) (Qy).under (.here 10 rfl),trivial⟩
 ·rintro a w ⟨z,hC,hI⟩
  have hC:GridOk 3 true z.g (A.getD 0 []).length z.R (X9 A.length (fun _ _=>Zr 0)) z.H:=hC
  refine wp_seq ?_
  refine Q3 hI 1 [] [] [Uc 0 6 _] (.k .z) (.kkkk .z) ⟨mv,trivial⟩ (.k .z) (.kkkk (.k .z)) fun a w hI=>?_
  refine wp_block ?_
  refine Q9 (fun(q:GI) a w=>(q.k≤A.length∧GridOk 3 true z.g (A.getD 0 []).length z.R (X9 A.length (uF A q.k 0)) q.H)∧Inv ⟨48,w0,M,fun _=>False⟩ [⟨19,19,none,none,.obj,0,0,false,Zo q.H,[]⟩] [] [⟨none,none,0,Qc 1 false A.length (fun i=>Qk (A.getD i []))⟩,⟨none,none,2,Qi ((Value.slice none 0 0))⟩,⟨none,none,3,pI 0⟩,⟨none,none,5,Qi (.slice (some ⟨z.g,0,none⟩) ((A.getD 0 []).length) ((A.getD 0 []).length))⟩,⟨none,none,6,pI (q.k:Int)⟩] Qf a w) (fun(q:GI)=>A.length-q.k) (⟨0,z.R,z.H⟩) ⟨⟨Nat.zero_le _,hC.congr fun i _=>uF_zero i⟩,(hI.conv ⟨⟨0,_,_,rfl,⟨rfl,rfl,rfl⟩,rfl,fun _=>(fun _ _ h=>h)⟩,trivial⟩ ⟨⟨rfl,rfl,0,_,rfl,fun _ _ h=>h⟩,⟨rfl,rfl,1,_,rfl,fun _ _ h=>h⟩,⟨rfl,rfl,2,_,rfl,fun _ _ h=>h⟩,⟨rfl,rfl,3,_,rfl,fun _ _ h=>h⟩,⟨rfl,rfl,4,_,rfl,(Qw rfl)⟩,trivial⟩)⟩ ?_
  intro q a w hIk
  obtain⟨⟨hk,hB1⟩,hI⟩:=hIk
  refine wp_seq ?_
  refine Q3 hI 4 [] [] [Uc 0 20 _,Uc 1 21 _,Uc 2 22 (pI (A.length:Int)),Uc 3 23 _] (.k .z) (.kkkk (.k .z)) ⟨mv,mv,Qm (.tmp 6 rfl rfl) (Qy).under (.here 7 rfl),bl,trivial⟩ (.k .z) (.kkkk (.kddd (.k .z))) fun a w hI=>?_
  refine Xa hI 5 rfl (fun ht=>?_) (fun ht=>?_)
  ·have t1:=of_decide_eq_true ht
   refine wp_skip ?_
   refine Qb ?_
   refine wp_seq ?_
   refine wp_block ?_
   refine Q3 hI 1 [] [] [Uc 0 7 _] (.k .z) (.kkkk (.kk .z)) ⟨mv,trivial⟩ (.k .z) (.kkkk (.kdk .z)) fun a w hI=>?_
   refine wp_block ?_
   refine Q9 (fun(q2:GI) a w=>(q2.k≤(A.getD 0 []).length∧GridOk 3 true z.g (A.getD 0 []).length z.R (X9 A.length (uF A q.k q2.k)) q2.H)∧Inv ⟨48,w0,M,fun _=>False⟩ [⟨19,19,none,none,.obj,0,0,false,Zo q2.H,[]⟩] [] [⟨none,none,0,Qc 1 false A.length (fun i=>Qk (A.getD i []))⟩,⟨none,none,2,Qi ((Value.slice none 0 0))⟩,⟨none,none,3,pI 0⟩,⟨none,none,5,Qi (.slice (some ⟨z.g,0,none⟩) ((A.getD 0 []).length) ((A.getD 0 []).length))⟩,⟨none,none,6,pI (q.k:Int)⟩,⟨none,none,7,pI (q2.k:Int)⟩] Qf a w) (fun(q2:GI)=>(A.getD 0 []).length-q2.k) (⟨0,z.R,q.H⟩) ⟨⟨Nat.zero_le _,hB1⟩,(hI.conv ⟨⟨0,_,_,rfl,⟨rfl,rfl,rfl⟩,rfl,fun _=>(fun _ _ h=>h)⟩,trivial⟩ ⟨⟨rfl,rfl,0,_,rfl,fun _ _ h=>h⟩,⟨rfl,rfl,1,_,rfl,fun _ _ h=>h⟩,⟨rfl,rfl,2,_,rfl,fun _ _ h=>h⟩,⟨rfl,rfl,3,_,rfl,fun _ _ h=>h⟩,⟨rfl,rfl,4,_,rfl,fun _ _ h=>h⟩,⟨rfl,rfl,5,_,rfl,(Qw rfl)⟩,trivial⟩)⟩ ?_
   intro q2 a w hIk
   obtain⟨⟨hk2,hB2⟩,hI⟩:=hIk
   refine wp_seq ?_
   refine Q3 hI 6 [] [] [Uc 0 26 _,Uc 1 27 _,Uc 2 28 _,Uc 3 29 (Qk (A.getD 0 [])),Uc 4 30 (pI ((A.getD 0 []).length:Int)),Uc 5 31 _] (.k .z) (.kkkk (.kk .z)) ⟨mv,mv,ixL Qy,Q5 (.tmp 8 rfl rfl) Jt ((Zb _)) (.here 9 rfl),Qm (.tmp 9 rfl rfl) (Xz).under (.here 10 rfl),bl,trivial⟩ (.k .z) (.kkkk (.kkdd (.dddk .z))) fun a w hI=>?_
   refine Xa hI 6 rfl (fun ht=>?_) (fun ht=>?_)
   ·have t2:=of_decide_eq_true ht
    refine wp_skip ?_
    refine Qb ?_
    refine wp_seq ?_
    refine wp_block ?_
    obtain⟨r,hr⟩:=hB2.at_ (i:=q2.k) (by omega) (by rw[Zd]; omega)
    have hrn:=(hB2.rows q2.k r (by omega) hr).1
    rw[Zd]at hrn
    have hra:=hAr q.k (by omega)
    refine srD hI [0,0,3,7,0,0,0,96,224,0,992,2016,4095,8191] [] [] [Uc 0 34 _,Uc 1 35 _,Uc 2 36 (Qi (.pointer (some ⟨z.g,0+((q2.k:Int)).toNat*1,none⟩))),Uc 3 37 (Qi (.slice (some ⟨r.b,0,none⟩) r.n r.cap)),Uc 4 38 _,Uc 5 39 _,Uc 6 40 _,Uc 7 41 _,Uc 8 42 (Qk (A.getD q.k [])),Uc 9 43 _,Uc 10 44 _,Uc 11 45 (Qr ((A.getD q.k []).getD q2.k 0)),Uc 12 46 (Qi (.pointer (some ⟨r.b,0+((q.k:Int)).toNat*3,none⟩)))] (.u none [(13,Zo (Ye q2.H r.b q.k (Zr ((A.getD q.k []).getD q2.k 0))))] .z) (.kkkk (.kkk .z)) ⟨mv,mv,Qs (.tmp 7 rfl rfl) (.tmp 8 rfl rfl) Qy (by omega) (by omega) (by kernel_rfl) (.here 9 rfl),Yv (e:=⟨z.g,1,false,Vf z.R⟩) (idx:=q2.k) 0 rfl rfl rfl (by kernel_rfl) rfl (.tmp 9 rfl rfl) hB2.top rfl (hB2.hd (by omega) hr) (show 0+((q2.k:Int)).toNat*1=q2.k*1 by omega) Jt (.here 10 rfl),mv,mv,mv,Ky Qy,Q5 (.tmp 14 rfl rfl) Jt ((Zb _)) (.here 15 rfl),mv,Ky Xz,Q5 (.tmp 17 rfl rfl) Yc (Xt _) (.here 18 rfl),Qs (.tmp 10 rfl rfl) (.tmp 11 rfl rfl) Xz (by omega) (by omega) (by kernel_rfl) (.here 19 rfl),Zn (e:=⟨r.b,3,true,X9 A.length (uF A q.k q2.k) q2.k⟩) (idx:=q.k) (it:=Zr ((A.getD q.k []).getD q2.k 0)) 0 rfl rfl rfl (by kernel_rfl) 0 rfl (by kernel_rfl) (by kernel_rfl) rfl (.tmp 19 rfl rfl) (hB2.rows q2.k r (by omega) hr).2.2.2.1 rfl (by rw[Zd]; omega) (show 0+((q.k:Int)).toNat*3=q.k*3 by omega) Yc (.tmp 18 rfl rfl) (Xt _),trivial⟩ (.s .o .z) (.kkkk (.kkdd (.d8 (.dddd .z)))) fun a w hI=>?_
    refine Xo ?_
    refine Qb ?_
    refine Z3 hI 3 [] [] [Uc 0 32 _,Uc 1 33 _,Uc 2 7 _] (.k .z) (.kkkk (.k (.t 2 .z))) ⟨mv,bl,mv,trivial⟩ (.k .z) (.kkkk (.kddd (.k .z))) fun a w hI=>?_
    refine Qb ?_
    exact⟨⟨q2.k+1,z.R,Ye q2.H r.b q.k (Zr ((A.getD q.k []).getD q2.k 0))⟩,⟨⟨by show q2.k+1≤(A.getD 0 []).length; omega,(hB2.set (k:=q.k) (it:=Zr ((A.getD q.k []).getD q2.k 0)) (by omega) hr).congr fun i _=>(Qdl i).trans (by rw[uF_step])⟩,(hI.conv ⟨⟨0,_,_,rfl,⟨rfl,rfl,rfl⟩,rfl,fun _=>fun _ _ h=>h⟩,trivial⟩ ⟨⟨rfl,rfl,0,_,rfl,fun _ _ h=>h⟩,⟨rfl,rfl,1,_,rfl,fun _ _ h=>h⟩,⟨rfl,rfl,2,_,rfl,fun _ _ h=>h⟩,⟨rfl,rfl,3,_,rfl,fun _ _ h=>h⟩,⟨rfl,rfl,4,_,rfl,fun _ _ h=>h⟩,⟨rfl,rfl,5,_,rfl,(Qw (by show((q2.k:Int)+1)=((q2.k+1:Nat):Int); omega))⟩,trivial⟩)⟩,(show(A.getD 0 []).length-(q2.k+1)<(A.getD 0 []).length-q2.k by omega)⟩
   ·have t3:=of_decide_eq_false ht
    refine wp_exit ?_
    refine Ql ?_
    refine Ql ?_
    refine Q7 ?_
    refine Xo ?_
    refine Qb ?_
    refine Z3 hI 3 [] [] [Uc 0 24 _,Uc 1 25 _,Uc 2 6 _] (.k .z) (.kkkk (.t 2 (.kk .z))) ⟨mv,bl,mv,trivial⟩ (.k .z) (.kkkk (.dddd (.dk .z))) fun a w hI=>?_
    refine Qb ?_
    exact⟨⟨q.k+1,z.R,q2.H⟩,⟨⟨by show q.k+1≤A.length; omega,by rw[show q2.k=(A.getD 0 []).length by omega]at hB2; exact hB2.congr fun i hi=>uF_row i hi⟩,(hI.conv ⟨⟨0,_,_,rfl,⟨rfl,rfl,rfl⟩,rfl,fun _=>fun _ _ h=>h⟩,trivial⟩ ⟨⟨rfl,rfl,0,_,rfl,fun _ _ h=>h⟩,⟨rfl,rfl,1,_,rfl,fun _ _ h=>h⟩,⟨rfl,rfl,2,_,rfl,fun _ _ h=>h⟩,⟨rfl,rfl,3,_,rfl,fun _ _ h=>h⟩,⟨rfl,rfl,4,_,rfl,(Qw (by show((q.k:Int)+1)=((q.k+1:Nat):Int); omega))⟩,trivial⟩)⟩,(show A.length-(q.k+1)<A.length-q.k by omega)⟩
  ·have t4:=of_decide_eq_false ht
   refine wp_exit ?_
   refine Ql ?_
   refine Ql ?_
   refine Q7 ?_
   refine Qb ?_
   refine Q3 hI 3 [] [] [Uc 0 47 _,Uc 1 2 _,Uc 2 3 _] (.k .z) (.k (.t 1 (.t 2 (.kkk .z)))) ⟨mv,mv,mv,trivial⟩ (.k .z) (.dddd (.dddk (.k .z))) fun a w hI=>?_
   refine wp_ret ?_
   exact finObj2 hI rfl (n0:=0) rfl (.tmp 0 rfl) (.tmp 1 rfl) (p:=Qc 1 false (A.getD 0 []).length (fun i=>Qk ((Qq A).getD i []))) (fun B' w hH=>Qfm (fun i hi=>by rw[We hi,Kh]) (fun i k hi hk=>by rw[show q.k=A.length by omega]; exact uF_fin hi hk) w _ (hB1.read (Nat.le_refl _) (by omega) B' w hH))
theorem Qip {A:List (List Rat)} (hAl:A.length≤1000000) (hA:¬Right A):∀(M:Nat→Nat→Prop) (w:World) (v0:Value),Mid M w→Box M (fun w=>(Qc 1 false A.length (fun i=>Qk (A.getD i []))) w v0) w→Calls Tryz.prog 17 #[v0] w (RetB M (Xr (Qi (.slice none 0 0)) (pI 4)) w):=by
 intro M w0 v0 hM hv0
 refine Q8 (N:=48) Tryz.func17 rfl rfl rfl hM (show EntsA M w0 [v0] [⟨none,none,0,Qc 1 false A.length (fun i=>Qk (A.getD i []))⟩]from⟨⟨rfl,_,rfl,hv0⟩,trivial⟩) fun a hI=>?_
 refine Qj hI 2 [Uc 0 2 _,Uc 1 3 _] (.k .z) ⟨mv,mv,trivial⟩ (.kkk .z) fun a w hI=>?_
 refine wp_seq ?_
 refine Qj hI 3 [Uc 0 8 _,Uc 1 9 _,Uc 2 4 _] (.kkk .z) ⟨mv,Z0 ((by have h:=Qcq (A:=A) hAl; rw[chk_no hA]at h; exact h)),mv,trivial⟩ (.kkkd (.dk .z)) fun a w hI=>?_
 refine Qj hI 2 [Uc 0 10 _,Uc 1 11 (pB true)] (.kkkk .z) ⟨mv,Q6 (v:=.bool (true)) (.tmp 4 rfl rfl) (.const _) (fun _=>rfl) (.here 5 rfl),trivial⟩ (.kkkk (.dk .z)) fun a w hI=>?_
 refine Y9 hI 4 rfl ?_
 refine Qj hI 3 [Uc 0 12 _,Uc 1 2 _,Uc 2 3 _] (.k (.t 1 (.t 2 (.kk .z)))) ⟨mv,mv,mv,trivial⟩ (.kddd (.ddkk .z)) fun a w hI=>?_
 refine wp_ret ?_
 refine Xf ?_
 exact K3 hI rfl (.tmp 1 rfl) (.tmp 2 rfl)
end Wx
