import Derived.Test.YtpiniclogfefjaaGreatJMatrices41
namespace Wx
open Go Go.RowKit

section
variable {L:List Int} {n f k j:Nat}
end
end Wx

namespace Wx
open Go Go.RowKit

section
variable {n k:Nat}
end
end Wx

namespace Wx

section
variable {X Y V:List (List Rat)} {n:Nat}
end
end Wx

namespace Wx
open Go Go.RowKit Go.Proofs

section
variable {A:List (List Rat)} {b:List Rat} {i r0 k0:Nat}
end
section
variable {A:List (List Rat)} {k0 i0:Nat}
end
end Wx

namespace Wx

section
variable {M:List (List Rat)} {b x o:List Rat} {n c:Nat}
end
end Wx

namespace Wx

theorem bd_dot_t {x y:List Rat} {j1 j2:Nat} (hx:∀k,BdR j1 (x.getD k 0)) (hy:∀k,BdR j2 (y.getD k 0)):∀k,BdR (1+k*(j1+j2+1)) (Jv x y k)
  |0=>by rw[Nat.zero_mul]; exact bd_zero
  |k+1=>((bd_dot_t hx hy k).add_t ((hx k).mul (hy k))).mono (by rw[Nat.succ_mul]; omega)
theorem mulT_bd_t {A C:List (List Rat)} {j1 j2 n:Nat} (hA:BdX j1 A) (hC:BdX j2 C) (hn:∀i,i<A.length→(A.getD i []).length≤n):BdX (1+n*(j1+j2+1)) (Kl A C):=fun i k=>by
  rcases Nat.lt_or_ge i A.length with h|h
  · rw[Qce h]
    rcases Nat.lt_or_ge k C.length with h2|h2
    · rw[Qd4 h2]
      exact(bd_dot_t (hA i) (hC k) _).mono (Nat.add_le_add_left (Nat.mul_le_mul_right _ (hn i h)) _)
    · rw[Ve (by rw[Qbq]; exact h2)]
      exact bd_zero.mono (by omega)
  · rw[show(Kl A C).getD i []=[]from Ve (by rw[Qei]; exact h)]
    exact bd_zero.mono (by omega)
section
variable {A:List (List Rat)} {b:List Rat} {j:Nat}
end
end Wx

namespace Wx
set_option maxRecDepth 100000
open Go Go.RowKit Go.Proofs
set_option linter.unusedVariables false

theorem cn_Det_ok {A:List (List Rat)} {j:Nat} (hR:SqOk A) (h4:A.length<5) (hb:BdX j A) (hj:j≤2000):∀(M:Nat→Nat→Prop) (w:World) (v0:Value),Mid M w→Box M (fun w=>(Qd 1 false A.length (fun i=>Qi (A.getD i []))) w v0) w→Calls Tryz.prog 20 #[v0] w (RetB M (Xj (Qw (Yj A.length (ent A))) (pI 0)) w):=by
  intro M w0 v0 hM hv0
  have h0:=hR.1.rows
  have hr:=hR.rect
  refine Q0 (N:=13) Tryz.func20 rfl rfl rfl hM (show EntsA M w0 [v0] [⟨none,none,0,Qd 1 false A.length (fun i=>Qi (A.getD i []))⟩]from⟨⟨rfl,_,rfl,hv0⟩,trivial⟩) fun a hI=>?_
  refine Qe hI [⟨2,2,some 0,none,.ptr,42,3,true,pv Xu,[]⟩] [] [⟨some 1,none,3,pI 0⟩] .z (.k .z) rfl [0,1] (by kernel_rfl) ?_ (.k .z) (.kk .z) fun a w hI=>?_
  · exact⟨Yu 0 rfl rfl (by kernel_rfl) (by kernel_rfl) rfl rfl rfl zv_R rfl rfl (by simp[Yr]) rfl (fun _=>trivial),Qc (.const _) (.here 1 rfl),trivial⟩
  refine wp_seq ?_
  refine Qe hI [] [] [⟨some 0,none,5,Qd 1 false A.length (fun i=>Qi (A.getD i []))⟩,⟨some 1,none,6,pI 0⟩,⟨some 2,none,4,pI 0⟩] (.k .z) (.kk .z) rfl [0,1,3] (by kernel_rfl) ?_ (.k .z) (.kkdd (.k .z)) fun a w hI=>?_
  · exact⟨Qa (.tmp 0 rfl rfl) (.here 2 rfl),Q3 (fun _ _=>by kernel_rfl) (.tmp 2 rfl rfl) (.here 3 rfl) ((by have h:=Qck (A:=A) (by omega); rw[Qa6 hR.1 hR.2]at h; exact h)),Qc (.tmp 3 rfl rfl) (.here 4 rfl),trivial⟩
  refine Qe hI [] [] [⟨some 0,none,7,pI 0⟩,⟨some 1,none,8,pB false⟩] (.k .z) (.kkk .z) rfl [0,1] (by kernel_rfl) ?_ (.k .z) (.kkkd (.k .z)) fun a w hI=>?_
  · exact⟨Qa (.tmp 2 rfl rfl) (.here 3 rfl),Qk (v:=.bool (false)) (.tmp 3 rfl rfl) (.const _) (fun _=>rfl) (.here 4 rfl),trivial⟩
  refine Yi hI 3 rfl ?_
  refine wp_skip ?_
  refine Qh ?_
  refine Qe hI [] [] [⟨some 0,none,11,Qd 1 false A.length (fun i=>Qi (A.getD i []))⟩,⟨some 1,none,12,Qw (Yj A.length (ent A))⟩,⟨some 3,none,3,pI 0⟩] (.u none [(2,pv (Qw (Yj A.length (ent A))))] .z) (.k (.t 3 (.kk .z))) rfl [0,1,3,7] (by kernel_rfl) ?_ (.s .o .z) (.dddd (.ddk .z)) fun a w hI=>?_
  · exact⟨Qa (.tmp 0 rfl rfl) (.here 4 rfl),Q3 (fun _ _=>by kernel_rfl) (.tmp 4 rfl rfl) (.here 5 rfl) (cn_minors (A:=A) h0.1 h4 hr hb hj),Xx 0 rfl rfl rfl rfl 0 rfl (by kernel_rfl) (by kernel_rfl) Yw (.tmp 5 rfl rfl) (Yk _),Qc (.const _) (.here 6 rfl),trivial⟩
  refine wp_ret ?_
  exact K5 hI rfl (.cell 0 rfl rfl rfl rfl Yw rfl) (.tmp 0 rfl)
theorem cn_Det_no {A:List (List Rat)} (hAl:A.length≤1000000) (hR:¬SqOk A):∀(M:Nat→Nat→Prop) (w:World) (v0:Value),Mid M w→Box M (fun w=>(Qd 1 false A.length (fun i=>Qi (A.getD i []))) w v0) w→Calls Tryz.prog 20 #[v0] w (RetB M (Xj (Qw 0) (pI 4)) w):=by
  intro M w0 v0 hM hv0
  refine Q0 (N:=13) Tryz.func20 rfl rfl rfl hM (show EntsA M w0 [v0] [⟨none,none,0,Qd 1 false A.length (fun i=>Qi (A.getD i []))⟩]from⟨⟨rfl,_,rfl,hv0⟩,trivial⟩) fun a hI=>?_
  refine Qe hI [⟨2,2,some 0,none,.ptr,42,3,true,pv Xu,[]⟩] [] [⟨some 1,none,3,pI 0⟩] .z (.k .z) rfl [0,1] (by kernel_rfl) ?_ (.k .z) (.kk .z) fun a w hI=>?_
  · exact⟨Yu 0 rfl rfl (by kernel_rfl) (by kernel_rfl) rfl rfl rfl zv_R rfl rfl (by simp[Yr]) rfl (fun _=>trivial),Qc (.const _) (.here 1 rfl),trivial⟩
  refine wp_seq ?_
  refine Qe hI [] [] [⟨some 0,none,5,Qd 1 false A.length (fun i=>Qi (A.getD i []))⟩,⟨some 1,none,6,pI 4⟩,⟨some 2,none,4,pI 4⟩] (.k .z) (.kk .z) rfl [0,1,3] (by kernel_rfl) ?_ (.k .z) (.kkdd (.k .z)) fun a w hI=>?_
  · exact⟨Qa (.tmp 0 rfl rfl) (.here 2 rfl),Q3 (fun _ _=>by kernel_rfl) (.tmp 2 rfl rfl) (.here 3 rfl) ((by have h:=Qck (A:=A) (by omega); rw[Qa2 hR]at h; exact h)),Qc (.tmp 3 rfl rfl) (.here 4 rfl),trivial⟩
  refine Qe hI [] [] [⟨some 0,none,7,pI 4⟩,⟨some 1,none,8,pB true⟩] (.k .z) (.kkk .z) rfl [0,1] (by kernel_rfl) ?_ (.k .z) (.kkkd (.k .z)) fun a w hI=>?_
  · exact⟨Qa (.tmp 2 rfl rfl) (.here 3 rfl),Qk (v:=.bool (true)) (.tmp 3 rfl rfl) (.const _) (fun _=>rfl) (.here 4 rfl),trivial⟩
  refine Zh hI 3 rfl ?_
  refine Qe hI [] [] [⟨some 0,none,9,Qw ((0:Int):Rat)⟩,⟨some 1,none,10,pI 4⟩,⟨some 3,none,3,pI 4⟩] (.u none [(2,pv (Qw ((0:Int):Rat)))] .z) (.k (.t 3 (.kk .z))) rfl [0,1,3,7] (by kernel_rfl) ?_ (.s .o .z) (.kddd (.ddk .z)) fun a w hI=>?_
  · exact⟨Zc (fun _ _=>by kernel_rfl) (Yl _) (.const _) (.here 4 rfl) (Qc4 0 (by omega) (by omega)),Qa (.tmp 2 rfl rfl) (.here 5 rfl),Xx 0 rfl rfl rfl rfl 0 rfl (by kernel_rfl) (by kernel_rfl) Yw (.tmp 4 rfl rfl) (Yk _),Qc (.tmp 5 rfl rfl) (.here 6 rfl),trivial⟩
  refine wp_ret ?_
  refine Xd ?_
  exact K5 hI rfl (.imp (.cell 0 rfl rfl rfl rfl Yw rfl) (fun w v h=>by rw[show((0:Int):Rat)=0 from rfl]at h; exact h)) (.tmp 1 rfl)
theorem Qf5 {A:List (List Rat)} {x:List Rat} {j jx:Nat} (hR:SqOk A) (h4:A.length<5) (hxl:x.length=A.length) (hb:BdX j A) (hx:∀k,BdR jx (x.getD k 0)) (hj:j≤30000∧jx≤30000):∀(M:Nat→Nat→Prop) (w:World) (v0 v1:Value),Mid M w→Box M (fun w=>(Qd 1 false A.length (fun i=>Qi (A.getD i []))) w v0) w→Box M (fun w=>(Qi x) w v1) w→Calls Tryz.prog 22 #[v0,v1] w (RetB M (Xj (Qw (qSum A x A.length A.length)) (pI 0)) w):=by
  intro M w0 v0 v1 hM hv0 hv1
  have h0:=hR.1.rows
  have hr:=hR.rect
  refine Q0 (N:=55) Tryz.func22 rfl rfl rfl hM (show EntsA M w0 [v0,v1] [⟨none,none,0,Qd 1 false A.length (fun i=>Qi (A.getD i []))⟩,⟨none,none,1,Qi x⟩]from⟨⟨rfl,_,rfl,hv0⟩,⟨rfl,_,rfl,hv1⟩,trivial⟩) fun a hI=>?_
  refine Qe hI [⟨4,4,some 0,none,.ptr,42,3,true,pv Xu,[]⟩] [] [⟨some 1,none,5,pI 0⟩] .z (.kk .z) rfl [0,1] (by kernel_rfl) ?_ (.k .z) (.kkk .z) fun a w hI=>?_
  · exact⟨Yu 0 rfl rfl (by kernel_rfl) (by kernel_rfl) rfl rfl rfl zv_R rfl rfl (by simp[Yr]) rfl (fun _=>trivial),Qc (.const _) (.here 2 rfl),trivial⟩
  refine wp_seq ?_
  refine Qe hI [] [] [⟨some 0,none,10,Qd 1 false A.length (fun i=>Qi (A.getD i []))⟩,⟨some 1,none,11,pI 0⟩,⟨some 2,none,6,pI 0⟩] (.k .z) (.kkk .z) rfl [0,1,3] (by kernel_rfl) ?_ (.k .z) (.kkkd (.dk .z)) fun a w hI=>?_
  · exact⟨Qa (.tmp 0 rfl rfl) (.here 3 rfl),Q3 (fun _ _=>by kernel_rfl) (.tmp 3 rfl rfl) (.here 4 rfl) ((by have h:=Qck (A:=A) (by omega); rw[Qa6 hR.1 hR.2]at h; exact h)),Qc (.tmp 4 rfl rfl) (.here 5 rfl),trivial⟩
  refine Qe hI [] [] [⟨some 0,none,12,pI 0⟩,⟨some 1,none,13,pB false⟩] (.k .z) (.kkkk .z) rfl [0,1] (by kernel_rfl) ?_ (.k .z) (.kkkk (.dk .z)) fun a w hI=>?_
  · exact⟨Qa (.tmp 3 rfl rfl) (.here 4 rfl),Qk (v:=.bool (false)) (.tmp 4 rfl rfl) (.const _) (fun _=>rfl) (.here 5 rfl),trivial⟩
  refine Yi hI 4 rfl ?_
  refine wp_skip ?_
  refine Qh ?_
  refine wp_seq ?_
  refine Qe hI [] [] [⟨some 0,none,16,Qi x⟩,⟨some 1,none,17,pI (x.length:Int)⟩,⟨some 2,none,18,Qd 1 false A.length (fun i=>Qi (A.getD i []))⟩,⟨some 3,none,19,pI (A.length:Int)⟩,⟨some 4,none,20,pB false⟩] (.k .z) (.kkkk (.k .z)) rfl [0,1,3,7,15] (by kernel_rfl) ?_ (.k .z) (.kkkd (.dddd (.dk .z))) fun a w hI=>?_
  · exact⟨Qa (.tmp 1 rfl rfl) (.here 5 rfl),Qz (.tmp 5 rfl rfl) (Zk).under (.here 6 rfl),Qa (.tmp 0 rfl rfl) (.here 7 rfl),Qz (.tmp 7 rfl rfl) (Xo).under (.here 8 rfl),Qk (v:=.bool (((x.length:Int) != (A.length:Int)))) (.tmp 6 rfl rfl) (.tmp 8 rfl rfl) (fun _=>rfl) (.at_ 9 _ _ rfl (Y4 ((by rw[hxl]; exact bne_self_eq_false _)))),trivial⟩
  refine Yi hI 3 rfl ?_
  refine wp_skip ?_
  refine Qh ?_
  refine Qe hI [⟨7,7,some 1,none,.ptr,42,3,true,pv Xu,[(2,pv (Qw ((0:Int):Rat)))]⟩] [] [⟨some 0,none,22,Qw ((0:Int):Rat)⟩] (.k .z) (.kkkk .z) rfl [0,1,3] (by kernel_rfl) ?_ (.k (.s .o .z)) (.kkkd (.d .z)) fun a w hI=>?_
  · exact⟨Zc (fun _ _=>by kernel_rfl) (Yl _) (.const _) (.here 4 rfl) (Qc4 0 (by omega) (by omega)),Yu 1 rfl rfl (by kernel_rfl) (by kernel_rfl) rfl rfl rfl zv_R rfl rfl (by simp[Yr]) rfl (fun _=>trivial),Xx 1 rfl rfl rfl rfl 0 rfl (by kernel_rfl) (by kernel_rfl) Yw (.tmp 4 rfl rfl) (Yk _),trivial⟩
  refine wp_seq ?_
  refine Qe hI [] [] [⟨some 0,none,8,pI 0⟩] (.k (.k .z)) (.kkk .z) rfl [0] (by kernel_rfl) ?_ (.k (.k .z)) (.kkkk .z) fun a w hI=>?_
  · exact⟨Qc (.const _) (.here 3 rfl),trivial⟩
  refine wp_block ?_
  refine Xw (fun(k:Nat) a w=>(k≤A.length)∧Inv ⟨55,w0,M,fun _=>False⟩ [⟨4,4,none,none,.ptr,42,3,true,pv Xu,[]⟩,⟨7,7,none,none,.ptr,42,3,true,pv (Qw (qOut A x A.length k)),[]⟩] [] [⟨none,none,0,Qd 1 false A.length (fun i=>Qi (A.getD i []))⟩,⟨none,none,1,Qi x⟩,⟨none,none,5,pI 0⟩,⟨none,none,8,pI (k:Int)⟩] Ql a w) (fun(k:Nat)=>A.length-k) (0) ⟨Nat.zero_le _,(hI.conv ⟨⟨0,_,_,rfl,⟨rfl,rfl,rfl⟩,rfl,fun _=>fun _ _ h=>h⟩,⟨1,_,_,rfl,⟨rfl,rfl,rfl⟩,rfl,fun _=>(fun w v h=>by rw[show((0:Int):Rat)=0 from rfl]at h; exact h)⟩,trivial⟩ ⟨⟨rfl,rfl,0,_,rfl,fun _ _ h=>h⟩,⟨rfl,rfl,1,_,rfl,fun _ _ h=>h⟩,⟨rfl,rfl,2,_,rfl,fun _ _ h=>h⟩,⟨rfl,rfl,3,_,rfl,(Q9 (by omega))⟩,trivial⟩)⟩ ?_
  intro k a w hIk
  obtain⟨hp,hI⟩:=hIk
  refine wp_seq ?_
  refine Qe hI [] [] [⟨some 0,none,23,pI (k:Int)⟩,⟨some 1,none,24,Qd 1 false A.length (fun i=>Qi (A.getD i []))⟩,⟨some 2,none,25,pI (A.length:Int)⟩,⟨some 3,none,26,pB (decide ((k:Int)<(A.length:Int)))⟩] (.k (.k .z)) (.kkkk .z) rfl [0,1,3,7] (by kernel_rfl) ?_ (.k (.k .z)) (.kkkk (.dddk .z)) fun a w hI=>?_
  · exact⟨Qa (.tmp 3 rfl rfl) (.here 4 rfl),Qa (.tmp 0 rfl rfl) (.here 5 rfl),Qz (.tmp 5 rfl rfl) (Xo).under (.here 6 rfl),Qk (v:=.bool (decide ((k:Int)<(A.length:Int)))) (.tmp 4 rfl rfl) (.tmp 6 rfl rfl) (fun _=>rfl) (.here 7 rfl),trivial⟩
  refine Xi hI 4 rfl (fun ht=>?_) (fun ht=>?_)
  · have t1:=of_decide_eq_true ht
    refine wp_skip ?_
    refine Qh ?_
    refine wp_seq ?_
    refine wp_block ?_
    refine Qe hI [] [] [⟨some 0,none,9,pI 0⟩] (.k (.k .z)) (.kkkk (.k .z)) rfl [0] (by kernel_rfl) ?_ (.k (.k .z)) (.kkkk (.dk .z)) fun a w hI=>?_
    · exact⟨Qc (.const _) (.here 5 rfl),trivial⟩
    refine wp_block ?_
    refine Xw (fun(k2:Nat) a w=>(k2≤A.length)∧Inv ⟨55,w0,M,fun _=>False⟩ [⟨4,4,none,none,.ptr,42,3,true,pv Xu,[]⟩,⟨7,7,none,none,.ptr,42,3,true,pv (Qw (qIn A x k (qOut A x A.length k) k2)),[]⟩] [] [⟨none,none,0,Qd 1 false A.length (fun i=>Qi (A.getD i []))⟩,⟨none,none,1,Qi x⟩,⟨none,none,5,pI 0⟩,⟨none,none,8,pI (k:Int)⟩,⟨none,none,9,pI (k2:Int)⟩] Ql a w) (fun(k2:Nat)=>A.length-k2) (0) ⟨Nat.zero_le _,(hI.conv ⟨⟨0,_,_,rfl,⟨rfl,rfl,rfl⟩,rfl,fun _=>fun _ _ h=>h⟩,⟨1,_,_,rfl,⟨rfl,rfl,rfl⟩,rfl,fun _=>(fun _ _ q=>q)⟩,trivial⟩ ⟨⟨rfl,rfl,0,_,rfl,fun _ _ h=>h⟩,⟨rfl,rfl,1,_,rfl,fun _ _ h=>h⟩,⟨rfl,rfl,2,_,rfl,fun _ _ h=>h⟩,⟨rfl,rfl,3,_,rfl,fun _ _ h=>h⟩,⟨rfl,rfl,4,_,rfl,(Q9 (by omega))⟩,trivial⟩)⟩ ?_
    intro k2 a w hIk
    obtain⟨hp2,hI⟩:=hIk
    refine wp_seq ?_
    refine Qe hI [] [] [⟨some 0,none,29,pI (k2:Int)⟩,⟨some 1,none,30,Qd 1 false A.length (fun i=>Qi (A.getD i []))⟩,⟨some 2,none,31,pI (A.length:Int)⟩,⟨some 3,none,32,pB (decide ((k2:Int)<(A.length:Int)))⟩] (.k (.k .z)) (.kkkk (.k .z)) rfl [0,1,3,7] (by kernel_rfl) ?_ (.k (.k .z)) (.kkkk (.kddd (.k .z))) fun a w hI=>?_
    · exact⟨Qa (.tmp 4 rfl rfl) (.here 5 rfl),Qa (.tmp 0 rfl rfl) (.here 6 rfl),Qz (.tmp 6 rfl rfl) (Xo).under (.here 7 rfl),Qk (v:=.bool (decide ((k2:Int)<(A.length:Int)))) (.tmp 5 rfl rfl) (.tmp 7 rfl rfl) (fun _=>rfl) (.here 8 rfl),trivial⟩
    refine Xi hI 5 rfl (fun ht=>?_) (fun ht=>?_)
    · have t2:=of_decide_eq_true ht
      refine wp_skip ?_
      refine Qh ?_
      refine wp_seq ?_
      refine wp_block ?_
      have hrk:=hr k (by omega)
      refine sem_D hI [] [] [⟨some 0,none,35,Qw (qIn A x k (qOut A x A.length k) k2)⟩,⟨some 1,none,36,Qi x⟩,⟨some 2,none,37,pI (k:Int)⟩,⟨some 3,none,38,Yb 3 true (Qw (x.getD k 0))⟩,⟨some 4,none,39,Qw (x.getD k 0)⟩,⟨some 5,none,40,Qd 1 false A.length (fun i=>Qi (A.getD i []))⟩,⟨some 6,none,41,pI (k:Int)⟩,⟨some 7,none,42,Yb 1 false (Qi (A.getD k []))⟩,⟨some 8,none,43,Qi (A.getD k [])⟩,⟨some 9,none,44,pI (k2:Int)⟩,⟨some 10,none,45,Yb 3 true (Qw ((A.getD k []).getD k2 0))⟩,⟨some 11,none,46,Qw ((A.getD k []).getD k2 0)⟩,⟨some 12,none,47,Qi x⟩,⟨some 13,none,48,pI (k2:Int)⟩,⟨some 14,none,49,Yb 3 true (Qw (x.getD k2 0))⟩,⟨some 15,none,50,Qw (x.getD k2 0)⟩,⟨some 16,none,51,Qw (((A.getD k []).getD k2 0)*(x.getD k2 0))⟩,⟨some 17,none,52,Qw ((x.getD k 0)*(((A.getD k []).getD k2 0)*(x.getD k2 0)))⟩,⟨some 18,none,53,Qw ((qIn A x k (qOut A x A.length k) k2)+((x.getD k 0)*(((A.getD k []).getD k2 0)*(x.getD k2 0))))⟩] (.k (.u none [(19,pv (Qw ((qIn A x k (qOut A x A.length k) k2)+((x.getD k 0)*(((A.getD k []).getD k2 0)*(x.getD k2 0))))))] .z)) (.kkkk (.kk .z)) rfl [0,0,0,6,14,0,0,96,224,0,992,2016,0,0,12288,28672,65504,131070,262143,524287] (by kernel_rfl) ?_ (.k (.s .o .z)) (.kkkk (.kddd (.d8 (.d8 (.d .z))))) fun a w hI=>?_
      · exact⟨Xl 1 rfl rfl rfl rfl (by kernel_rfl) Yw rfl (.here 6 rfl),Qa (.tmp 1 rfl rfl) (.here 7 rfl),Qa (.tmp 3 rfl rfl) (.here 8 rfl),Qt (.tmp 7 rfl rfl) (.tmp 8 rfl rfl) Zk (by omega) (by omega) (by kernel_rfl) (.at_ 9 _ _ rfl (by rw[Int.toNat_natCast]; exact fun _ _ h=>h)),Q5 (.tmp 9 rfl rfl) Yw (Yk _) (.here 10 rfl),Qa (.tmp 0 rfl rfl) (.here 11 rfl),Qa (.tmp 3 rfl rfl) (.here 12 rfl),Qt (.tmp 11 rfl rfl) (.tmp 12 rfl rfl) Xo (by omega) (by omega) (by kernel_rfl) (.at_ 13 _ _ rfl (by rw[Int.toNat_natCast]; exact fun _ _ h=>h)),Q5 (.tmp 13 rfl rfl) J2 ((Zm _)) (.here 14 rfl),Qa (.tmp 4 rfl rfl) (.here 15 rfl),Qt (.tmp 14 rfl rfl) (.tmp 15 rfl rfl) Zk (by omega) (by omega) (by kernel_rfl) (.at_ 16 _ _ rfl (by rw[Int.toNat_natCast]; exact fun _ _ h=>h)),Q5 (.tmp 16 rfl rfl) Yw (Yk _) (.here 17 rfl),Qa (.tmp 1 rfl rfl) (.here 18 rfl),Qa (.tmp 4 rfl rfl) (.here 19 rfl),Qt (.tmp 18 rfl rfl) (.tmp 19 rfl rfl) Zk (by omega) (by omega) (by kernel_rfl) (.at_ 20 _ _ rfl (by rw[Int.toNat_natCast]; exact fun _ _ h=>h)),Q5 (.tmp 20 rfl rfl) Yw (Yk _) (.here 21 rfl),Yf (fun _ _=>by kernel_rfl) (Yl _) (.tmp 17 rfl rfl) (.tmp 21 rfl rfl) (.here 22 rfl) (cn_mul (hb k k2) (hx k2) (by omega)),Yf (fun _ _=>by kernel_rfl) (Yl _) (.tmp 10 rfl rfl) (.tmp 22 rfl rfl) (.here 23 rfl) (cn_mul (hx k) ((hb k k2).mul (hx k2)) (by omega)),Yf (fun _ _=>by kernel_rfl) (Yl _) (.tmp 6 rfl rfl) (.tmp 23 rfl rfl) (.here 24 rfl) (cn_add (bd_qIn (bd_qOut hb hx k) hb hx k2) ((hx k).mul ((hb k k2).mul (hx k2))) (qn_bits (J:=(jx+(j+jx))) h4 (show k<A.length by omega) (show k2<A.length by omega) (by omega))),Xx 1 rfl rfl rfl rfl 0 rfl (by kernel_rfl) (by kernel_rfl) Yw (.tmp 24 rfl rfl) (Yk _),trivial⟩
      refine Yd ?_
      refine Qh ?_
      refine Y0 hI [] [] [⟨some 0,none,33,pI (k2:Int)⟩,⟨some 1,none,34,pI ((k2:Int)+(1:Int))⟩,⟨some 2,none,9,pI ((k2:Int)+(1:Int))⟩] (.k (.k .z)) (.kkkk (.t 2 .z)) rfl [0,1,3] (by kernel_rfl) ?_ (.k (.k .z)) (.kkkk (.dddk .z)) fun a w hI=>?_
      · exact⟨Qa (.tmp 4 rfl rfl) (.here 5 rfl),Qk (v:=.int .i64 (IntKind.i64.wrap ((k2:Int)+(1:Int)))) (.tmp 5 rfl rfl) (.const _) (fun _=>rfl) (.at_ 6 _ _ rfl (X3 (by omega))),Qc (.tmp 6 rfl rfl) (.here 7 rfl),trivial⟩
      refine Qh ?_
      exact⟨k2+1,⟨(show k2+1≤A.length by omega),(hI.conv ⟨⟨0,_,_,rfl,⟨rfl,rfl,rfl⟩,rfl,fun _=>fun _ _ h=>h⟩,⟨1,_,_,rfl,⟨rfl,rfl,rfl⟩,rfl,fun _=>(fun _ _ q=>q)⟩,trivial⟩ ⟨⟨rfl,rfl,0,_,rfl,fun _ _ h=>h⟩,⟨rfl,rfl,1,_,rfl,fun _ _ h=>h⟩,⟨rfl,rfl,2,_,rfl,fun _ _ h=>h⟩,⟨rfl,rfl,3,_,rfl,fun _ _ h=>h⟩,⟨rfl,rfl,4,_,rfl,(Q9 (by omega))⟩,trivial⟩)⟩,(show A.length-(k2+1)<A.length-k2 by omega)⟩
    · have t3:=of_decide_eq_false ht
      refine wp_exit ?_
      refine Qv ?_
      refine Qv ?_
      refine Xt ?_
      refine Yd ?_
      refine Qh ?_
      refine Y0 hI [] [] [⟨some 0,none,27,pI (k:Int)⟩,⟨some 1,none,28,pI ((k:Int)+(1:Int))⟩,⟨some 2,none,8,pI ((k:Int)+(1:Int))⟩] (.k (.k .z)) (.kkk (.t 2 (.kk .z))) rfl [0,1,3] (by kernel_rfl) ?_ (.k (.k .z)) (.kkkd (.dddd (.k .z))) fun a w hI=>?_
      · exact⟨Qa (.tmp 3 rfl rfl) (.here 6 rfl),Qk (v:=.int .i64 (IntKind.i64.wrap ((k:Int)+(1:Int)))) (.tmp 6 rfl rfl) (.const _) (fun _=>rfl) (.at_ 7 _ _ rfl (X3 (by omega))),Qc (.tmp 7 rfl rfl) (.here 8 rfl),trivial⟩
      refine Qh ?_
      exact⟨k+1,⟨(show k+1≤A.length by omega),(hI.conv ⟨⟨0,_,_,rfl,⟨rfl,rfl,rfl⟩,rfl,fun _=>fun _ _ h=>h⟩,⟨1,_,_,rfl,⟨rfl,rfl,rfl⟩,rfl,fun _=>(fun w v h=>by rw[show k2=A.length by omega]at h; exact h)⟩,trivial⟩ ⟨⟨rfl,rfl,0,_,rfl,fun _ _ h=>h⟩,⟨rfl,rfl,1,_,rfl,fun _ _ h=>h⟩,⟨rfl,rfl,2,_,rfl,fun _ _ h=>h⟩,⟨rfl,rfl,3,_,rfl,(Q9 (by omega))⟩,trivial⟩)⟩,(show A.length-(k+1)<A.length-k by omega)⟩
  · have t4:=of_decide_eq_false ht
    refine wp_exit ?_
    refine Qv ?_
    refine Qv ?_
    refine Xt ?_
    refine Qh ?_
    refine Qe hI [] [] [⟨some 0,none,54,Qw (qOut A x A.length k)⟩,⟨some 2,none,5,pI 0⟩] (.u none [(1,pv (Qw (qOut A x A.length k)))] (.k .z)) (.kk (.t 2 (.kk .z))) rfl [0,1,3] (by kernel_rfl) ?_ (.s .o (.k .z)) (.dddd (.ddk .z)) fun a w hI=>?_
    · exact⟨Xl 1 rfl rfl rfl rfl (by kernel_rfl) Yw rfl (.here 5 rfl),Xx 0 rfl rfl rfl rfl 0 rfl (by kernel_rfl) (by kernel_rfl) Yw (.tmp 5 rfl rfl) (Yk _),Qc (.const _) (.here 6 rfl),trivial⟩
    refine wp_ret ?_
    exact K5 hI rfl (.imp (.cell 0 rfl rfl rfl rfl Yw rfl) (fun w v h=>by rw[show k=A.length by omega,qOut_eq]at h; exact h)) (.tmp 0 rfl)
theorem Qf3 {A:List (List Rat)} {x:List Rat} (hAl:A.length≤1000000) (hR:¬SqOk A):∀(M:Nat→Nat→Prop) (w:World) (v0 v1:Value),Mid M w→Box M (fun w=>(Qd 1 false A.length (fun i=>Qi (A.getD i []))) w v0) w→Box M (fun w=>(Qi x) w v1) w→Calls Tryz.prog 22 #[v0,v1] w (RetB M (Xj (Qw 0) (pI 4)) w):=by
  intro M w0 v0 v1 hM hv0 hv1
  refine Q0 (N:=55) Tryz.func22 rfl rfl rfl hM (show EntsA M w0 [v0,v1] [⟨none,none,0,Qd 1 false A.length (fun i=>Qi (A.getD i []))⟩,⟨none,none,1,Qi x⟩]from⟨⟨rfl,_,rfl,hv0⟩,⟨rfl,_,rfl,hv1⟩,trivial⟩) fun a hI=>?_
  refine Qe hI [⟨4,4,some 0,none,.ptr,42,3,true,pv Xu,[]⟩] [] [⟨some 1,none,5,pI 0⟩] .z (.kk .z) rfl [0,1] (by kernel_rfl) ?_ (.k .z) (.kkk .z) fun a w hI=>?_
  · exact⟨Yu 0 rfl rfl (by kernel_rfl) (by kernel_rfl) rfl rfl rfl zv_R rfl rfl (by simp[Yr]) rfl (fun _=>trivial),Qc (.const _) (.here 2 rfl),trivial⟩
  refine wp_seq ?_
  refine Qe hI [] [] [⟨some 0,none,10,Qd 1 false A.length (fun i=>Qi (A.getD i []))⟩,⟨some 1,none,11,pI 4⟩,⟨some 2,none,6,pI 4⟩] (.k .z) (.kkk .z) rfl [0,1,3] (by kernel_rfl) ?_ (.k .z) (.kkkd (.dk .z)) fun a w hI=>?_
  · exact⟨Qa (.tmp 0 rfl rfl) (.here 3 rfl),Q3 (fun _ _=>by kernel_rfl) (.tmp 3 rfl rfl) (.here 4 rfl) ((by have h:=Qck (A:=A) (by omega); rw[Qa2 hR]at h; exact h)),Qc (.tmp 4 rfl rfl) (.here 5 rfl),trivial⟩
  refine Qe hI [] [] [⟨some 0,none,12,pI 4⟩,⟨some 1,none,13,pB true⟩] (.k .z) (.kkkk .z) rfl [0,1] (by kernel_rfl) ?_ (.k .z) (.kkkk (.dk .z)) fun a w hI=>?_
  · exact⟨Qa (.tmp 3 rfl rfl) (.here 4 rfl),Qk (v:=.bool (true)) (.tmp 4 rfl rfl) (.const _) (fun _=>rfl) (.here 5 rfl),trivial⟩
  refine Zh hI 4 rfl ?_
  refine Qe hI [] [] [⟨some 0,none,14,Qw ((0:Int):Rat)⟩,⟨some 1,none,15,pI 4⟩,⟨some 3,none,5,pI 4⟩] (.u none [(2,pv (Qw ((0:Int):Rat)))] .z) (.kk (.t 3 (.kk .z))) rfl [0,1,3,7] (by kernel_rfl) ?_ (.s .o .z) (.kkdd (.dddk .z)) fun a w hI=>?_
  · exact⟨Zc (fun _ _=>by kernel_rfl) (Yl _) (.const _) (.here 5 rfl) (Qc4 0 (by omega) (by omega)),Qa (.tmp 3 rfl rfl) (.here 6 rfl),Xx 0 rfl rfl rfl rfl 0 rfl (by kernel_rfl) (by kernel_rfl) Yw (.tmp 5 rfl rfl) (Yk _),Qc (.tmp 6 rfl rfl) (.here 7 rfl),trivial⟩
  refine wp_ret ?_
  refine Xd ?_
  exact K5 hI rfl (.imp (.cell 0 rfl rfl rfl rfl Yw rfl) (fun w v h=>by rw[show((0:Int):Rat)=0 from rfl]at h; exact h)) (.tmp 2 rfl)
theorem Qf0 {A:List (List Rat)} {x:List Rat} (hR:SqOk A) (hxl:x.length≠A.length):∀(M:Nat→Nat→Prop) (w:World) (v0 v1:Value),Mid M w→Box M (fun w=>(Qd 1 false A.length (fun i=>Qi (A.getD i []))) w v0) w→Box M (fun w=>(Qi x) w v1) w→Calls Tryz.prog 22 #[v0,v1] w (RetB M (Xj (Qw 0) (pI 4)) w):=by
  intro M w0 v0 v1 hM hv0 hv1
  have h0:=hR.1.rows
  have hr:=hR.rect
  refine Q0 (N:=55) Tryz.func22 rfl rfl rfl hM (show EntsA M w0 [v0,v1] [⟨none,none,0,Qd 1 false A.length (fun i=>Qi (A.getD i []))⟩,⟨none,none,1,Qi x⟩]from⟨⟨rfl,_,rfl,hv0⟩,⟨rfl,_,rfl,hv1⟩,trivial⟩) fun a hI=>?_
  refine Qe hI [⟨4,4,some 0,none,.ptr,42,3,true,pv Xu,[]⟩] [] [⟨some 1,none,5,pI 0⟩] .z (.kk .z) rfl [0,1] (by kernel_rfl) ?_ (.k .z) (.kkk .z) fun a w hI=>?_
  · exact⟨Yu 0 rfl rfl (by kernel_rfl) (by kernel_rfl) rfl rfl rfl zv_R rfl rfl (by simp[Yr]) rfl (fun _=>trivial),Qc (.const _) (.here 2 rfl),trivial⟩
  refine wp_seq ?_
  refine Qe hI [] [] [⟨some 0,none,10,Qd 1 false A.length (fun i=>Qi (A.getD i []))⟩,⟨some 1,none,11,pI 0⟩,⟨some 2,none,6,pI 0⟩] (.k .z) (.kkk .z) rfl [0,1,3] (by kernel_rfl) ?_ (.k .z) (.kkkd (.dk .z)) fun a w hI=>?_
  · exact⟨Qa (.tmp 0 rfl rfl) (.here 3 rfl),Q3 (fun _ _=>by kernel_rfl) (.tmp 3 rfl rfl) (.here 4 rfl) ((by have h:=Qck (A:=A) (by omega); rw[Qa6 hR.1 hR.2]at h; exact h)),Qc (.tmp 4 rfl rfl) (.here 5 rfl),trivial⟩
  refine Qe hI [] [] [⟨some 0,none,12,pI 0⟩,⟨some 1,none,13,pB false⟩] (.k .z) (.kkkk .z) rfl [0,1] (by kernel_rfl) ?_ (.k .z) (.kkkk (.dk .z)) fun a w hI=>?_
  · exact⟨Qa (.tmp 3 rfl rfl) (.here 4 rfl),Qk (v:=.bool (false)) (.tmp 4 rfl rfl) (.const _) (fun _=>rfl) (.here 5 rfl),trivial⟩
  refine Yi hI 4 rfl ?_
  refine wp_skip ?_
  refine Qh ?_
  refine wp_seq ?_
  refine Qe hI [] [] [⟨some 0,none,16,Qi x⟩,⟨some 1,none,17,pI (x.length:Int)⟩,⟨some 2,none,18,Qd 1 false A.length (fun i=>Qi (A.getD i []))⟩,⟨some 3,none,19,pI (A.length:Int)⟩,⟨some 4,none,20,pB true⟩] (.k .z) (.kkkk (.k .z)) rfl [0,1,3,7,15] (by kernel_rfl) ?_ (.k .z) (.kkkd (.dddd (.dk .z))) fun a w hI=>?_
  · exact⟨Qa (.tmp 1 rfl rfl) (.here 5 rfl),Qz (.tmp 5 rfl rfl) (Zk).under (.here 6 rfl),Qa (.tmp 0 rfl rfl) (.here 7 rfl),Qz (.tmp 7 rfl rfl) (Xo).under (.here 8 rfl),Qk (v:=.bool (((x.length:Int) != (A.length:Int)))) (.tmp 6 rfl rfl) (.tmp 8 rfl rfl) (fun _=>rfl) (.at_ 9 _ _ rfl (Y4 ((bne_iff_ne.2 (by omega))))),trivial⟩
  refine Zh hI 3 rfl ?_
  refine Qe hI [] [] [⟨some 0,none,21,Qw ((0:Int):Rat)⟩,⟨some 2,none,5,pI 4⟩] (.u none [(1,pv (Qw ((0:Int):Rat)))] .z) (.kk (.t 2 (.k .z))) rfl [0,1,3] (by kernel_rfl) ?_ (.s .o .z) (.kkdd (.dk .z)) fun a w hI=>?_
  · exact⟨Zc (fun _ _=>by kernel_rfl) (Yl _) (.const _) (.here 4 rfl) (Qc4 0 (by omega) (by omega)),Xx 0 rfl rfl rfl rfl 0 rfl (by kernel_rfl) (by kernel_rfl) Yw (.tmp 4 rfl rfl) (Yk _),Qc (.const _) (.here 5 rfl),trivial⟩
  refine wp_ret ?_
  refine Xd ?_
  exact K5 hI rfl (.imp (.cell 0 rfl rfl rfl rfl Yw rfl) (fun w v h=>by rw[show((0:Int):Rat)=0 from rfl]at h; exact h)) (.tmp 2 rfl)
end Wx
