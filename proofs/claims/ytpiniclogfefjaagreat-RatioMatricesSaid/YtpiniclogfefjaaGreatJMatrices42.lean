import Derived.Test.YtpiniclogfefjaaGreatJMatrices41
namespace Wx
open Go Go.RowKit

section
variable {L:List Int} {n f k j:Nat}
end
end Wx

namespace Wx
open Go Go.RowKit

section
variable {n k:Nat}
end
end Wx

namespace Wx

section
variable {X Y V:List (List Rat)} {n:Nat}
end
end Wx

namespace Wx
open Go Go.RowKit Go.Proofs

section
variable {A:List (List Rat)} {b:List Rat} {i r0 k0:Nat}
end
section
variable {A:List (List Rat)} {k0 i0:Nat}
end
end Wx

namespace Wx

section
variable {M:List (List Rat)} {b x o:List Rat} {n c:Nat}
end
end Wx

namespace Wx

theorem bd_dot_t {x y:List Rat} {j1 j2:Nat} (hx:∀k,BdR j1 (x.getD k 0)) (hy:∀k,BdR j2 (y.getD k 0)):∀k,BdR (1+k*(j1+j2+1)) (Jy x y k)
 |0=>by rw[Nat.zero_mul]; exact bd_zero
 |k+1=>((bd_dot_t hx hy k).add_t ((hx k).mul (hy k))).mono (by rw[Nat.succ_mul]; omega)
theorem mulT_bd_t {A C:List (List Rat)} {j1 j2 n:Nat} (hA:BdX j1 A) (hC:BdX j2 C) (hn:∀i,i<A.length→(A.getD i []).length≤n):BdX (1+n*(j1+j2+1)) (Ko A C):=fun i k=>by
 rcases Nat.lt_or_ge i A.length with h|h
 ·rw[Qcv h]
  rcases Nat.lt_or_ge k C.length with h2|h2
  ·rw[Qel h2]
   exact(bd_dot_t (hA i) (hC k) _).mono (Nat.add_le_add_left (Nat.mul_le_mul_right _ (hn i h)) _)
  ·rw[Vg (by rw[Qb1]; exact h2)]
   exact bd_zero.mono (by omega)
 ·rw[show(Ko A C).getD i []=[]from Vg (by rw[Qem]; exact h)]
  exact bd_zero.mono (by omega)
section
variable {A:List (List Rat)} {b:List Rat} {j:Nat}
end
end Wx

namespace Wx
set_option maxRecDepth 100000
open Go Go.RowKit Go.Proofs
set_option linter.unusedVariables false

theorem cn_Det_ok {A:List (List Rat)} {j:Nat} (hR:SqOk A) (h4:A.length<5) (hb:BdX j A) (hj:j≤2000):∀(M:Nat→Nat→Prop) (w:World) (v0:Value),Mid M w→Box M (fun w=>(Qr Qg A) w v0) w→Calls Tryz.prog 20 #[v0] w (RetB M (Xn (Qz (Ym A.length (ent A))) (pI 0)) w):=by
 intro M w0 v0 hM hv0
 have h0:=hR.1.rows
 have hr:=hR.rect
 refine Q5 (N:=13) Tryz.func20 rfl rfl rfl hM (show EntsA M w0 [v0] [Ez 0 (Qr Qg A)]from⟨⟨rfl,_,rfl,hv0⟩,trivial⟩) fun a hI=>?_
 refine Ql hI [⟨2,2,some 0,none,.ptr,42,3,true,pv Xx,[]⟩] [Ec 1 3 (pI 0)] [0,1] .z (.k .z) ?_ (.k .z) (.kk .z) fun a w hI=>?_
 ·exact⟨Yx 0 rfl rfl (by kernel_rfl) (by kernel_rfl) rfl rfl rfl zv_R rfl rfl (by simp[Yu]) rfl (fun _=>trivial),Qc (.const _) (.here 1 rfl),trivial⟩
 refine wp_seq ?_
 refine Ql hI [] [Ec 0 5 (Qr Qg A),Ec 1 6 (pI 0),Ec 2 4 (pI 0)] [0,1,3] (.k .z) (.kk .z) ?_ (.k .z) (.kkdd (.k .z)) fun a w hI=>?_
 ·exact⟨Qa (.tp 0 rfl) (.here 2 rfl),Q6 (fun _ _=>by kernel_rfl) (.tp 2 rfl) (.here 3 rfl) ((by have h:=Qcg (A:=A) (by omega); rw[Qa5 hR.1 hR.2]at h; exact h)),Qc (.tp 3 rfl) (.here 4 rfl),trivial⟩
 refine Ql hI [] [Ec 0 7 (pI 0),Ec 1 8 (pB false)] [0,1] (.k .z) (.kkk .z) ?_ (.k .z) (.kkkd (.k .z)) fun a w hI=>?_
 ·exact⟨Qa (.tp 2 rfl) (.here 3 rfl),Qk (v:=.bool (false)) (.tp 3 rfl) (.const _) (fun _=>rfl) (.here 4 rfl),trivial⟩
 refine Yk hI 3 rfl ?_
 refine wp_skip ?_
 refine Qf ?_
 refine Ql hI [] [Ec 0 11 (Qr Qg A),Ec 1 12 (Qz (Ym A.length (ent A))),Ec 3 3 (pI 0)] [0,1,3,7] (.u none [(2,pv (Qz (Ym A.length (ent A))))] .z) (.k (.t 3 (.kk .z))) ?_ (.s .o .z) (.dddd (.ddk .z)) fun a w hI=>?_
 ·exact⟨Qa (.tp 0 rfl) (.here 4 rfl),Q6 (fun _ _=>by kernel_rfl) (.tp 4 rfl) (.here 5 rfl) (cn_minors (A:=A) h0.1 h4 hr hb hj),X0 0 rfl rfl rfl rfl 0 rfl (by kernel_rfl) (by kernel_rfl) Yz (.tp 5 rfl) (Yn _),Qc (.const _) (.here 6 rfl),trivial⟩
 refine wp_ret ?_
 exact K7 hI rfl (.cell 0 rfl rfl rfl rfl Yz rfl) (.tmp 0 rfl)
theorem cn_Det_no {A:List (List Rat)} (hAl:A.length≤1000000) (hR:¬SqOk A):∀(M:Nat→Nat→Prop) (w:World) (v0:Value),Mid M w→Box M (fun w=>(Qr Qg A) w v0) w→Calls Tryz.prog 20 #[v0] w (RetB M (Xn (Qz 0) (pI 4)) w):=by
 intro M w0 v0 hM hv0
 refine Q5 (N:=13) Tryz.func20 rfl rfl rfl hM (show EntsA M w0 [v0] [Ez 0 (Qr Qg A)]from⟨⟨rfl,_,rfl,hv0⟩,trivial⟩) fun a hI=>?_
 refine Ql hI [⟨2,2,some 0,none,.ptr,42,3,true,pv Xx,[]⟩] [Ec 1 3 (pI 0)] [0,1] .z (.k .z) ?_ (.k .z) (.kk .z) fun a w hI=>?_
 ·exact⟨Yx 0 rfl rfl (by kernel_rfl) (by kernel_rfl) rfl rfl rfl zv_R rfl rfl (by simp[Yu]) rfl (fun _=>trivial),Qc (.const _) (.here 1 rfl),trivial⟩
 refine wp_seq ?_
 refine Ql hI [] [Ec 0 5 (Qr Qg A),Ec 1 6 (pI 4),Ec 2 4 (pI 4)] [0,1,3] (.k .z) (.kk .z) ?_ (.k .z) (.kkdd (.k .z)) fun a w hI=>?_
 ·exact⟨Qa (.tp 0 rfl) (.here 2 rfl),Q6 (fun _ _=>by kernel_rfl) (.tp 2 rfl) (.here 3 rfl) ((by have h:=Qcg (A:=A) (by omega); rw[Qa4 hR]at h; exact h)),Qc (.tp 3 rfl) (.here 4 rfl),trivial⟩
 refine Ql hI [] [Ec 0 7 (pI 4),Ec 1 8 (pB true)] [0,1] (.k .z) (.kkk .z) ?_ (.k .z) (.kkkd (.k .z)) fun a w hI=>?_
 ·exact⟨Qa (.tp 2 rfl) (.here 3 rfl),Qk (v:=.bool (true)) (.tp 3 rfl) (.const _) (fun _=>rfl) (.here 4 rfl),trivial⟩
 refine Zk hI 3 rfl ?_
 refine Ql hI [] [Ec 0 9 (Qz ((0:Int):Rat)),Ec 1 10 (pI 4),Ec 3 3 (pI 4)] [0,1,3,7] (.u none [(2,pv (Qz ((0:Int):Rat)))] .z) (.k (.t 3 (.kk .z))) ?_ (.s .o .z) (.kddd (.ddk .z)) fun a w hI=>?_
 ·exact⟨Zf (fun _ _=>by kernel_rfl) (Yo _) (.const _) (.here 4 rfl) (Qcf 0 (by omega) (by omega)),Qa (.tp 2 rfl) (.here 5 rfl),X0 0 rfl rfl rfl rfl 0 rfl (by kernel_rfl) (by kernel_rfl) Yz (.tp 4 rfl) (Yn _),Qc (.tp 5 rfl) (.here 6 rfl),trivial⟩
 refine wp_ret ?_
 refine Xh ?_
 exact K7 hI rfl (.imp (.cell 0 rfl rfl rfl rfl Yz rfl) (fun w v h=>by rw[show((0:Int):Rat)=0 from rfl]at h; exact h)) (.tmp 1 rfl)
theorem Qge {A:List (List Rat)} {x:List Rat} {j jx:Nat} (hR:SqOk A) (h4:A.length<5) (hxl:x.length=A.length) (hb:BdX j A) (hx:∀k,BdR jx (x.getD k 0)) (hj:j≤30000∧jx≤30000):∀(M:Nat→Nat→Prop) (w:World) (v0 v1:Value),Mid M w→Box M (fun w=>(Qr Qg A) w v0) w→Box M (fun w=>(Qg x) w v1) w→Calls Tryz.prog 22 #[v0,v1] w (RetB M (Xn (Qz (qSum A x A.length A.length)) (pI 0)) w):=by
 intro M w0 v0 v1 hM hv0 hv1
 have h0:=hR.1.rows
 have hr:=hR.rect
 refine Q5 (N:=55) Tryz.func22 rfl rfl rfl hM (show EntsA M w0 [v0,v1] [Ez 0 (Qr Qg A),Ez 1 (Qg x)]from⟨⟨rfl,_,rfl,hv0⟩,⟨rfl,_,rfl,hv1⟩,trivial⟩) fun a hI=>?_
 refine Ql hI [⟨4,4,some 0,none,.ptr,42,3,true,pv Xx,[]⟩] [Ec 1 5 (pI 0)] [0,1] .z (.kk .z) ?_ (.k .z) (.kkk .z) fun a w hI=>?_
 ·exact⟨Yx 0 rfl rfl (by kernel_rfl) (by kernel_rfl) rfl rfl rfl zv_R rfl rfl (by simp[Yu]) rfl (fun _=>trivial),Qc (.const _) (.here 2 rfl),trivial⟩
 refine wp_seq ?_
 refine Ql hI [] [Ec 0 10 (Qr Qg A),Ec 1 11 (pI 0),Ec 2 6 (pI 0)] [0,1,3] (.k .z) (.kkk .z) ?_ (.k .z) (.kkkd (.dk .z)) fun a w hI=>?_
 ·exact⟨Qa (.tp 0 rfl) (.here 3 rfl),Q6 (fun _ _=>by kernel_rfl) (.tp 3 rfl) (.here 4 rfl) ((by have h:=Qcg (A:=A) (by omega); rw[Qa5 hR.1 hR.2]at h; exact h)),Qc (.tp 4 rfl) (.here 5 rfl),trivial⟩
 refine Ql hI [] [Ec 0 12 (pI 0),Ec 1 13 (pB false)] [0,1] (.k .z) (.kkkk .z) ?_ (.k .z) (.kkkk (.dk .z)) fun a w hI=>?_
 ·exact⟨Qa (.tp 3 rfl) (.here 4 rfl),Qk (v:=.bool (false)) (.tp 4 rfl) (.const _) (fun _=>rfl) (.here 5 rfl),trivial⟩
 refine Yk hI 4 rfl ?_
 refine wp_skip ?_
 refine Qf ?_
 refine wp_seq ?_
 refine Ql hI [] [Ec 0 16 (Qg x),Ec 1 17 (pI (x.length:Int)),Ec 2 18 (Qr Qg A),Ec 3 19 (pI (A.length:Int)),Ec 4 20 (pB false)] [0,1,3,7,15] (.k .z) (.kkkk (.k .z)) ?_ (.k .z) (.kkkd (.dddd (.dk .z))) fun a w hI=>?_
 ·exact⟨Qa (.tp 1 rfl) (.here 5 rfl),Q4 (.tp 5 rfl) (Zm).under (.here 6 rfl),Qa (.tp 0 rfl) (.here 7 rfl),Q4 (.tp 7 rfl) (Xr).under (.here 8 rfl),Qk (v:=.bool (((x.length:Int) != (A.length:Int)))) (.tp 6 rfl) (.tp 8 rfl) (fun _=>rfl) (.at_ 9 _ _ rfl (Y7 ((by rw[hxl]; exact bne_self_eq_false _)))),trivial⟩
 refine Yk hI 3 rfl ?_
 refine wp_skip ?_
 refine Qf ?_
 refine Ql hI [⟨7,7,some 1,none,.ptr,42,3,true,pv Xx,[(2,pv (Qz ((0:Int):Rat)))]⟩] [Ec 0 22 (Qz ((0:Int):Rat))] [0,1,3] (.k .z) (.kkkk .z) ?_ (.k (.s .o .z)) (.kkkd (.d .z)) fun a w hI=>?_
 ·exact⟨Zf (fun _ _=>by kernel_rfl) (Yo _) (.const _) (.here 4 rfl) (Qcf 0 (by omega) (by omega)),Yx 1 rfl rfl (by kernel_rfl) (by kernel_rfl) rfl rfl rfl zv_R rfl rfl (by simp[Yu]) rfl (fun _=>trivial),X0 1 rfl rfl rfl rfl 0 rfl (by kernel_rfl) (by kernel_rfl) Yz (.tp 4 rfl) (Yn _),trivial⟩
 refine wp_seq ?_
 refine Ql hI [] [Ec 0 8 (pI 0)] [0] (.k (.k .z)) (.kkk .z) ?_ (.k (.k .z)) (.kkkk .z) fun a w hI=>?_
 ·exact⟨Qc (.const _) (.here 3 rfl),trivial⟩
 refine wp_block ?_
 refine Xz (fun(k:Nat) a w=>(k≤A.length)∧Inv ⟨55,w0,M,fun _=>False⟩ [⟨4,4,none,none,.ptr,42,3,true,pv Xx,[]⟩,⟨7,7,none,none,.ptr,42,3,true,pv (Qz (qOut A x A.length k)),[]⟩] [] [Ez 0 (Qr Qg A),Ez 1 (Qg x),Ez 5 (pI 0),Ez 8 (pI (k:Int))] Qi a w) (fun(k:Nat)=>A.length-k) (0) ⟨Nat.zero_le _,(hI.conv ⟨⟨0,_,_,rfl,⟨rfl,rfl,rfl⟩,rfl,fun _=>fun _ _ h=>h⟩,⟨1,_,_,rfl,⟨rfl,rfl,rfl⟩,rfl,fun _=>(fun w v h=>by rw[show((0:Int):Rat)=0 from rfl]at h; exact h)⟩,trivial⟩ ⟨Qp 0 rfl,Qp 1 rfl,Qp 2 rfl,⟨rfl,rfl,3,_,rfl,(Xc (by omega))⟩,trivial⟩)⟩ ?_
 intro k a w hIk
 obtain⟨hp,hI⟩:=hIk
 refine wp_seq ?_
 refine Ql hI [] [Ec 0 23 (pI (k:Int)),Ec 1 24 (Qr Qg A),Ec 2 25 (pI (A.length:Int)),Ec 3 26 (pB (decide ((k:Int)<(A.length:Int))))] [0,1,3,7] (.k (.k .z)) (.kkkk .z) ?_ (.k (.k .z)) (.kkkk (.dddk .z)) fun a w hI=>?_
 ·exact⟨Qa (.tp 3 rfl) (.here 4 rfl),Qa (.tp 0 rfl) (.here 5 rfl),Q4 (.tp 5 rfl) (Xr).under (.here 6 rfl),Qk (v:=.bool (decide ((k:Int)<(A.length:Int)))) (.tp 4 rfl) (.tp 6 rfl) (fun _=>rfl) (.here 7 rfl),trivial⟩
 refine Xm hI 4 rfl (fun ht=>?_) (fun ht=>?_)
 ·have t1:=of_decide_eq_true ht
  refine wp_skip ?_
  refine Qf ?_
  refine wp_seq ?_
  refine wp_block ?_
  refine Ql hI [] [Ec 0 9 (pI 0)] [0] (.k (.k .z)) (.kkkk (.k .z)) ?_ (.k (.k .z)) (.kkkk (.dk .z)) fun a w hI=>?_
  ·exact⟨Qc (.const _) (.here 5 rfl),trivial⟩
  refine wp_block ?_
  refine Xz (fun(k2:Nat) a w=>(k2≤A.length)∧Inv ⟨55,w0,M,fun _=>False⟩ [⟨4,4,none,none,.ptr,42,3,true,pv Xx,[]⟩,⟨7,7,none,none,.ptr,42,3,true,pv (Qz (qIn A x k (qOut A x A.length k) k2)),[]⟩] [] [Ez 0 (Qr Qg A),Ez 1 (Qg x),Ez 5 (pI 0),Ez 8 (pI (k:Int)),Ez 9 (pI (k2:Int))] Qi a w) (fun(k2:Nat)=>A.length-k2) (0) ⟨Nat.zero_le _,(hI.conv ⟨⟨0,_,_,rfl,⟨rfl,rfl,rfl⟩,rfl,fun _=>fun _ _ h=>h⟩,⟨1,_,_,rfl,⟨rfl,rfl,rfl⟩,rfl,fun _=>(fun _ _ q=>q)⟩,trivial⟩ ⟨Qp 0 rfl,Qp 1 rfl,Qp 2 rfl,Qp 3 rfl,⟨rfl,rfl,4,_,rfl,(Xc (by omega))⟩,trivial⟩)⟩ ?_
  intro k2 a w hIk
  obtain⟨hp2,hI⟩:=hIk
  refine wp_seq ?_
  refine Ql hI [] [Ec 0 29 (pI (k2:Int)),Ec 1 30 (Qr Qg A),Ec 2 31 (pI (A.length:Int)),Ec 3 32 (pB (decide ((k2:Int)<(A.length:Int))))] [0,1,3,7] (.k (.k .z)) (.kkkk (.k .z)) ?_ (.k (.k .z)) (.kkkk (.kddd (.k .z))) fun a w hI=>?_
  ·exact⟨Qa (.tp 4 rfl) (.here 5 rfl),Qa (.tp 0 rfl) (.here 6 rfl),Q4 (.tp 6 rfl) (Xr).under (.here 7 rfl),Qk (v:=.bool (decide ((k2:Int)<(A.length:Int)))) (.tp 5 rfl) (.tp 7 rfl) (fun _=>rfl) (.here 8 rfl),trivial⟩
  refine Xm hI 5 rfl (fun ht=>?_) (fun ht=>?_)
  ·have t2:=of_decide_eq_true ht
   refine wp_skip ?_
   refine Qf ?_
   refine wp_seq ?_
   refine wp_block ?_
   have hrk:=hr k (by omega)
   refine Qc6 hI [] [Ec 0 35 (Qz (qIn A x k (qOut A x A.length k) k2)),Ec 1 36 (Qg x),Ec 2 37 (pI (k:Int)),Ec 3 38 (Ye 3 true (Qz (x.getD k 0))),Ec 4 39 (Qz (x.getD k 0)),Ec 5 40 (Qr Qg A),Ec 6 41 (pI (k:Int)),Ec 7 42 (Ye 1 false (Qg (A.getD k []))),Ec 8 43 (Qg (A.getD k [])),Ec 9 44 (pI (k2:Int)),Ec 10 45 (Ye 3 true (Qz ((A.getD k []).getD k2 0))),Ec 11 46 (Qz ((A.getD k []).getD k2 0)),Ec 12 47 (Qg x),Ec 13 48 (pI (k2:Int)),Ec 14 49 (Ye 3 true (Qz (x.getD k2 0))),Ec 15 50 (Qz (x.getD k2 0)),Ec 16 51 (Qz (((A.getD k []).getD k2 0)*(x.getD k2 0))),Ec 17 52 (Qz ((x.getD k 0)*(((A.getD k []).getD k2 0)*(x.getD k2 0)))),Ec 18 53 (Qz ((qIn A x k (qOut A x A.length k) k2)+((x.getD k 0)*(((A.getD k []).getD k2 0)*(x.getD k2 0)))))] [0,0,0,6,14,0,0,96,224,0,992,2016,0,0,12288,28672,65504,131070,262143,524287] (.k (.u none [(19,pv (Qz ((qIn A x k (qOut A x A.length k) k2)+((x.getD k 0)*(((A.getD k []).getD k2 0)*(x.getD k2 0))))))] .z)) (.kkkk (.kk .z)) ?_ (.k (.s .o .z)) (.kkkk (.kddd (.d8 (.d8 (.d .z))))) fun a w hI=>?_
   ·exact⟨Xp 1 rfl rfl rfl rfl (by kernel_rfl) Yz rfl (.here 6 rfl),Qa (.tp 1 rfl) (.here 7 rfl),Qa (.tp 3 rfl) (.here 8 rfl),Qw (.tp 7 rfl) (.tp 8 rfl) Zm (.at_ 9 _ _ rfl (by rw[Int.toNat_natCast]; exact fun _ _ h=>h)),Q7 (.tp 9 rfl) Yz (Yn _) (.here 10 rfl),Qa (.tp 0 rfl) (.here 11 rfl),Qa (.tp 3 rfl) (.here 12 rfl),Qw (.tp 11 rfl) (.tp 12 rfl) Xr (.at_ 13 _ _ rfl (by rw[Int.toNat_natCast]; exact fun _ _ h=>h)),Q7 (.tp 13 rfl) J5 ((Zp _)) (.here 14 rfl),Qa (.tp 4 rfl) (.here 15 rfl),Qw (.tp 14 rfl) (.tp 15 rfl) Zm (.at_ 16 _ _ rfl (by rw[Int.toNat_natCast]; exact fun _ _ h=>h)),Q7 (.tp 16 rfl) Yz (Yn _) (.here 17 rfl),Qa (.tp 1 rfl) (.here 18 rfl),Qa (.tp 4 rfl) (.here 19 rfl),Qw (.tp 18 rfl) (.tp 19 rfl) Zm (.at_ 20 _ _ rfl (by rw[Int.toNat_natCast]; exact fun _ _ h=>h)),Q7 (.tp 20 rfl) Yz (Yn _) (.here 21 rfl),Yi (fun _ _=>by kernel_rfl) (Yo _) (.tp 17 rfl) (.tp 21 rfl) (.here 22 rfl) (cn_mul (hb k k2) (hx k2) (by omega)),Yi (fun _ _=>by kernel_rfl) (Yo _) (.tp 10 rfl) (.tp 22 rfl) (.here 23 rfl) (cn_mul (hx k) ((hb k k2).mul (hx k2)) (by omega)),Yi (fun _ _=>by kernel_rfl) (Yo _) (.tp 6 rfl) (.tp 23 rfl) (.here 24 rfl) (cn_add (bd_qIn (bd_qOut hb hx k) hb hx k2) ((hx k).mul ((hb k k2).mul (hx k2))) (qn_bits (J:=(jx+(j+jx))) h4 (show k<A.length by omega) (show k2<A.length by omega) (by omega))),X0 1 rfl rfl rfl rfl 0 rfl (by kernel_rfl) (by kernel_rfl) Yz (.tp 24 rfl) (Yn _),trivial⟩
   refine Yf ?_
   refine Qf ?_
   refine Y4 hI [] [Ec 0 33 (pI (k2:Int)),Ec 1 34 (pI ((k2:Int)+(1:Int))),Ec 2 9 (pI ((k2:Int)+(1:Int)))] [0,1,3] (.k (.k .z)) (.kkkk (.t 2 .z)) ?_ (.k (.k .z)) (.kkkk (.dddk .z)) fun a w hI=>?_
   ·exact⟨Qa (.tp 4 rfl) (.here 5 rfl),Qk (v:=.int .i64 (IntKind.i64.wrap ((k2:Int)+(1:Int)))) (.tp 5 rfl) (.const _) (fun _=>rfl) (.at_ 6 _ _ rfl (X8 (by omega))),Qc (.tp 6 rfl) (.here 7 rfl),trivial⟩
   refine Qf ?_
   exact⟨k2+1,⟨(show k2+1≤A.length by omega),(hI.conv ⟨⟨0,_,_,rfl,⟨rfl,rfl,rfl⟩,rfl,fun _=>fun _ _ h=>h⟩,⟨1,_,_,rfl,⟨rfl,rfl,rfl⟩,rfl,fun _=>(fun _ _ q=>q)⟩,trivial⟩ ⟨Qp 0 rfl,Qp 1 rfl,Qp 2 rfl,Qp 3 rfl,⟨rfl,rfl,4,_,rfl,(Xc (by omega))⟩,trivial⟩)⟩,(show A.length-(k2+1)<A.length-k2 by omega)⟩
  ·have t3:=of_decide_eq_false ht
   refine wp_exit ?_
   refine Qy ?_
   refine Qy ?_
   refine Xv ?_
   refine Yf ?_
   refine Qf ?_
   refine Y4 hI [] [Ec 0 27 (pI (k:Int)),Ec 1 28 (pI ((k:Int)+(1:Int))),Ec 2 8 (pI ((k:Int)+(1:Int)))] [0,1,3] (.k (.k .z)) (.kkk (.t 2 (.kk .z))) ?_ (.k (.k .z)) (.kkkd (.dddd (.k .z))) fun a w hI=>?_
   ·exact⟨Qa (.tp 3 rfl) (.here 6 rfl),Qk (v:=.int .i64 (IntKind.i64.wrap ((k:Int)+(1:Int)))) (.tp 6 rfl) (.const _) (fun _=>rfl) (.at_ 7 _ _ rfl (X8 (by omega))),Qc (.tp 7 rfl) (.here 8 rfl),trivial⟩
   refine Qf ?_
   exact⟨k+1,⟨(show k+1≤A.length by omega),(hI.conv ⟨⟨0,_,_,rfl,⟨rfl,rfl,rfl⟩,rfl,fun _=>fun _ _ h=>h⟩,⟨1,_,_,rfl,⟨rfl,rfl,rfl⟩,rfl,fun _=>(fun w v h=>by rw[show k2=A.length by omega]at h; exact h)⟩,trivial⟩ ⟨Qp 0 rfl,Qp 1 rfl,Qp 2 rfl,⟨rfl,rfl,3,_,rfl,(Xc (by omega))⟩,trivial⟩)⟩,(show A.length-(k+1)<A.length-k by omega)⟩
 ·have t4:=of_decide_eq_false ht
  refine wp_exit ?_
  refine Qy ?_
  refine Qy ?_
  refine Xv ?_
  refine Qf ?_
  refine Ql hI [] [Ec 0 54 (Qz (qOut A x A.length k)),Ec 2 5 (pI 0)] [0,1,3] (.u none [(1,pv (Qz (qOut A x A.length k)))] (.k .z)) (.kk (.t 2 (.kk .z))) ?_ (.s .o (.k .z)) (.dddd (.ddk .z)) fun a w hI=>?_
  ·exact⟨Xp 1 rfl rfl rfl rfl (by kernel_rfl) Yz rfl (.here 5 rfl),X0 0 rfl rfl rfl rfl 0 rfl (by kernel_rfl) (by kernel_rfl) Yz (.tp 5 rfl) (Yn _),Qc (.const _) (.here 6 rfl),trivial⟩
  refine wp_ret ?_
  exact K7 hI rfl (.imp (.cell 0 rfl rfl rfl rfl Yz rfl) (fun w v h=>by rw[show k=A.length by omega,qOut_eq]at h; exact h)) (.tmp 0 rfl)
theorem Qf5 {A:List (List Rat)} {x:List Rat} (hAl:A.length≤1000000) (hR:¬SqOk A):∀(M:Nat→Nat→Prop) (w:World) (v0 v1:Value),Mid M w→Box M (fun w=>(Qr Qg A) w v0) w→Box M (fun w=>(Qg x) w v1) w→Calls Tryz.prog 22 #[v0,v1] w (RetB M (Xn (Qz 0) (pI 4)) w):=by
 intro M w0 v0 v1 hM hv0 hv1
 refine Q5 (N:=55) Tryz.func22 rfl rfl rfl hM (show EntsA M w0 [v0,v1] [Ez 0 (Qr Qg A),Ez 1 (Qg x)]from⟨⟨rfl,_,rfl,hv0⟩,⟨rfl,_,rfl,hv1⟩,trivial⟩) fun a hI=>?_
 refine Ql hI [⟨4,4,some 0,none,.ptr,42,3,true,pv Xx,[]⟩] [Ec 1 5 (pI 0)] [0,1] .z (.kk .z) ?_ (.k .z) (.kkk .z) fun a w hI=>?_
 ·exact⟨Yx 0 rfl rfl (by kernel_rfl) (by kernel_rfl) rfl rfl rfl zv_R rfl rfl (by simp[Yu]) rfl (fun _=>trivial),Qc (.const _) (.here 2 rfl),trivial⟩
 refine wp_seq ?_
 refine Ql hI [] [Ec 0 10 (Qr Qg A),Ec 1 11 (pI 4),Ec 2 6 (pI 4)] [0,1,3] (.k .z) (.kkk .z) ?_ (.k .z) (.kkkd (.dk .z)) fun a w hI=>?_
 ·exact⟨Qa (.tp 0 rfl) (.here 3 rfl),Q6 (fun _ _=>by kernel_rfl) (.tp 3 rfl) (.here 4 rfl) ((by have h:=Qcg (A:=A) (by omega); rw[Qa4 hR]at h; exact h)),Qc (.tp 4 rfl) (.here 5 rfl),trivial⟩
 refine Ql hI [] [Ec 0 12 (pI 4),Ec 1 13 (pB true)] [0,1] (.k .z) (.kkkk .z) ?_ (.k .z) (.kkkk (.dk .z)) fun a w hI=>?_
 ·exact⟨Qa (.tp 3 rfl) (.here 4 rfl),Qk (v:=.bool (true)) (.tp 4 rfl) (.const _) (fun _=>rfl) (.here 5 rfl),trivial⟩
 refine Zk hI 4 rfl ?_
 refine Ql hI [] [Ec 0 14 (Qz ((0:Int):Rat)),Ec 1 15 (pI 4),Ec 3 5 (pI 4)] [0,1,3,7] (.u none [(2,pv (Qz ((0:Int):Rat)))] .z) (.kk (.t 3 (.kk .z))) ?_ (.s .o .z) (.kkdd (.dddk .z)) fun a w hI=>?_
 ·exact⟨Zf (fun _ _=>by kernel_rfl) (Yo _) (.const _) (.here 5 rfl) (Qcf 0 (by omega) (by omega)),Qa (.tp 3 rfl) (.here 6 rfl),X0 0 rfl rfl rfl rfl 0 rfl (by kernel_rfl) (by kernel_rfl) Yz (.tp 5 rfl) (Yn _),Qc (.tp 6 rfl) (.here 7 rfl),trivial⟩
 refine wp_ret ?_
 refine Xh ?_
 exact K7 hI rfl (.imp (.cell 0 rfl rfl rfl rfl Yz rfl) (fun w v h=>by rw[show((0:Int):Rat)=0 from rfl]at h; exact h)) (.tmp 2 rfl)
theorem Qf6 {A:List (List Rat)} {x:List Rat} (hR:SqOk A) (hxl:x.length≠A.length):∀(M:Nat→Nat→Prop) (w:World) (v0 v1:Value),Mid M w→Box M (fun w=>(Qr Qg A) w v0) w→Box M (fun w=>(Qg x) w v1) w→Calls Tryz.prog 22 #[v0,v1] w (RetB M (Xn (Qz 0) (pI 4)) w):=by
 intro M w0 v0 v1 hM hv0 hv1
 have h0:=hR.1.rows
 have hr:=hR.rect
 refine Q5 (N:=55) Tryz.func22 rfl rfl rfl hM (show EntsA M w0 [v0,v1] [Ez 0 (Qr Qg A),Ez 1 (Qg x)]from⟨⟨rfl,_,rfl,hv0⟩,⟨rfl,_,rfl,hv1⟩,trivial⟩) fun a hI=>?_
 refine Ql hI [⟨4,4,some 0,none,.ptr,42,3,true,pv Xx,[]⟩] [Ec 1 5 (pI 0)] [0,1] .z (.kk .z) ?_ (.k .z) (.kkk .z) fun a w hI=>?_
 ·exact⟨Yx 0 rfl rfl (by kernel_rfl) (by kernel_rfl) rfl rfl rfl zv_R rfl rfl (by simp[Yu]) rfl (fun _=>trivial),Qc (.const _) (.here 2 rfl),trivial⟩
 refine wp_seq ?_
 refine Ql hI [] [Ec 0 10 (Qr Qg A),Ec 1 11 (pI 0),Ec 2 6 (pI 0)] [0,1,3] (.k .z) (.kkk .z) ?_ (.k .z) (.kkkd (.dk .z)) fun a w hI=>?_
 ·exact⟨Qa (.tp 0 rfl) (.here 3 rfl),Q6 (fun _ _=>by kernel_rfl) (.tp 3 rfl) (.here 4 rfl) ((by have h:=Qcg (A:=A) (by omega); rw[Qa5 hR.1 hR.2]at h; exact h)),Qc (.tp 4 rfl) (.here 5 rfl),trivial⟩
 refine Ql hI [] [Ec 0 12 (pI 0),Ec 1 13 (pB false)] [0,1] (.k .z) (.kkkk .z) ?_ (.k .z) (.kkkk (.dk .z)) fun a w hI=>?_
 ·exact⟨Qa (.tp 3 rfl) (.here 4 rfl),Qk (v:=.bool (false)) (.tp 4 rfl) (.const _) (fun _=>rfl) (.here 5 rfl),trivial⟩
 refine Yk hI 4 rfl ?_
 refine wp_skip ?_
 refine Qf ?_
 refine wp_seq ?_
 refine Ql hI [] [Ec 0 16 (Qg x),Ec 1 17 (pI (x.length:Int)),Ec 2 18 (Qr Qg A),Ec 3 19 (pI (A.length:Int)),Ec 4 20 (pB true)] [0,1,3,7,15] (.k .z) (.kkkk (.k .z)) ?_ (.k .z) (.kkkd (.dddd (.dk .z))) fun a w hI=>?_
 ·exact⟨Qa (.tp 1 rfl) (.here 5 rfl),Q4 (.tp 5 rfl) (Zm).under (.here 6 rfl),Qa (.tp 0 rfl) (.here 7 rfl),Q4 (.tp 7 rfl) (Xr).under (.here 8 rfl),Qk (v:=.bool (((x.length:Int) != (A.length:Int)))) (.tp 6 rfl) (.tp 8 rfl) (fun _=>rfl) (.at_ 9 _ _ rfl (Y7 ((bne_iff_ne.2 (by omega))))),trivial⟩
 refine Zk hI 3 rfl ?_
 refine Ql hI [] [Ec 0 21 (Qz ((0:Int):Rat)),Ec 2 5 (pI 4)] [0,1,3] (.u none [(1,pv (Qz ((0:Int):Rat)))] .z) (.kk (.t 2 (.k .z))) ?_ (.s .o .z) (.kkdd (.dk .z)) fun a w hI=>?_
 ·exact⟨Zf (fun _ _=>by kernel_rfl) (Yo _) (.const _) (.here 4 rfl) (Qcf 0 (by omega) (by omega)),X0 0 rfl rfl rfl rfl 0 rfl (by kernel_rfl) (by kernel_rfl) Yz (.tp 4 rfl) (Yn _),Qc (.const _) (.here 5 rfl),trivial⟩
 refine wp_ret ?_
 refine Xh ?_
 exact K7 hI rfl (.imp (.cell 0 rfl rfl rfl rfl Yz rfl) (fun w v h=>by rw[show((0:Int):Rat)=0 from rfl]at h; exact h)) (.tmp 2 rfl)
end Wx
