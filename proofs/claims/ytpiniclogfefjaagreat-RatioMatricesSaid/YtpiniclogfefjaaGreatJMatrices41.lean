import Derived.Test.YtpiniclogfefjaaGreatCMatricesNMat
namespace Wx
open Go Go.RowKit

theorem wrap_n64 {n:Nat} (h:n<2^64):IntKind.u64.wrap (n:Int)=(n:Int):=by
 have e:IntKind.u64.wrap (n:Int)=(n:Int)%2^64:=by simp[IntKind.wrap,IntKind.signed,IntKind.bits]
 rw[e]
 have h':(n:Int)<2^64:=by exact_mod_cast h
 exact Int.emod_eq_of_lt (Int.natCast_nonneg n) h'
theorem bv_nat (n:Nat):BitVec.ofInt 64 (n:Int)=BitVec.ofNat 64 n:=BitVec.ofInt_natCast 64 n
theorem bv_toNat {n:Nat} (h:n<2^64):(BitVec.ofNat 64 n).toNat=n:=by rw[BitVec.toNat_ofNat]; exact Nat.mod_eq_of_lt h
theorem and_maskN {n k:Nat} (hn:n<2^64) (hk:k≤64):(BitVec.ofInt 64 (n:Int) &&& BitVec.ofInt 64 ((2^k-1:Nat):Int)).toNat=n%2^k:=by
 have h1:2^k-1<2^64:=by
  have:2^k≤2^64:=Nat.pow_le_pow_right (by omega) hk
  have:=Nat.two_pow_pos k
  omega
 rw[bv_nat,bv_nat,BitVec.toNat_and,bv_toNat hn,bv_toNat h1,Nat.and_two_pow_sub_one_eq_mod]
section
variable {P:Program} {ops:Array Oper} {ms:List Nat} {c:Cfg} {V:List Vr} {A:List Al} {G:List Ent} {i:Nat}
variable {d:Nat} {x y:Operand} {ty:TypeId} {pos:String} {aft:Array Edge}
end
end Wx

namespace Wx
open Go Go.RowKit

theorem wrap_i64 {n:Nat} (h:n<2^63):IntKind.i64.wrap (n:Int)=(n:Int):=IntWalk.i64_in _ ⟨by omega,by omega⟩
section
variable {P:Program} {ops:Array Oper} {ms:List Nat} {c:Cfg} {V:List Vr} {A:List Al} {G:List Ent} {i:Nat}
variable {d:Nat} {x y:Operand} {ty:TypeId} {pos:String} {aft:Array Edge}
theorem op_shlI {xt yt:TypeId} {n s:Nat} {yk:IntKind} (h1:Has ms G i x (pI (n:Int))) (h2:Has ms G i y (Qs (.int yk (s:Int)))) (hs:s≤64) (hn:n*2^s<2^63) (hp:Post G i (pI ((n*2^s:Nat):Int))):X2 P ops ms c V A G i ⟨some d,.binOp .shl xt x y yt,ty,pos,aft,none⟩:=by
 refine Qk h1 h2 (fun w=>?_) hp
 show(Op.shift .shl .i64 (n:Int) yk (s:Int)).run P w=_
 unfold Op.shift
 rw[if_neg (by omega)]
 have e:min ((s:Int)).toNat IntKind.i64.bits=s:=by show min ((s:Int)).toNat 64=s; omega
 simp only[e,Sem.run_pure]
 have e2:(n:Int)*2^s=((n*2^s:Nat):Int):=by simp
 rw[e2,wrap_i64 hn]
theorem op_shrI {xt yt:TypeId} {n s:Nat} {yk:IntKind} (h1:Has ms G i x (pI (n:Int))) (h2:Has ms G i y (Qs (.int yk (s:Int)))) (hs:s≤64) (hp:Post G i (pI ((n/2^s:Nat):Int))):X2 P ops ms c V A G i ⟨some d,.binOp .shr xt x y yt,ty,pos,aft,none⟩:=by
 refine Qk h1 h2 (fun w=>?_) hp
 show(Op.shift .shr .i64 (n:Int) yk (s:Int)).run P w=_
 unfold Op.shift
 rw[if_neg (by omega)]
 have e:min ((s:Int)).toNat IntKind.i64.bits=s:=by show min ((s:Int)).toNat 64=s; omega
 simp only[e,Sem.run_pure]
 have e2:((n:Int)).fdiv (2^s)=((n/2^s:Nat):Int):=by
  rw[Int.fdiv_eq_ediv_of_nonneg _ (by exact Int.le_of_lt (Int.pow_pos (by omega)))]
  simp
 rw[e2]
theorem op_and1 {xt yt:TypeId} {n:Nat} (h1:Has ms G i x (pI (n:Int))) (h2:Has ms G i y (pI 1)) (hn:n<2^63) (hp:Post G i (pI ((n%2:Nat):Int))):X2 P ops ms c V A G i ⟨some d,.binOp .and xt x y yt,ty,pos,aft,none⟩:=by
 refine Qk h1 h2 (fun w=>?_) hp
 show Result.ok (Value.int .i64 (IntKind.i64.wrap ((BitVec.ofInt 64 (n:Int) &&& BitVec.ofInt 64 1).toNat:Int))) w=_
 have:=and_maskN (n:=n) (k:=1) (by omega) (by omega)
 have this:(BitVec.ofInt 64 (n:Int) &&& BitVec.ofInt 64 1).toNat=n%2:=this
 rw[this,wrap_i64 (by omega)]
theorem Qa0 {S D:TypeId} {n:Nat} (h:Has ms G i x (pI (n:Int))) (hr:∀w,(Go.convert S D (.int .i64 (n:Int))).run P w=.ok (.int .u64 (IntKind.u64.wrap (n:Int))) w) (hn:n<2^64) (hp:Post G i (Qs (.int .u64 (n:Int)))):X2 P ops ms c V A G i ⟨some d,.convert S D x,ty,pos,aft,none⟩:=
 op_conv (v:=.int .i64 (n:Int)) h (fun w=>by rw[hr w,wrap_n64 hn]) hp
end
end Wx

namespace Wx
set_option maxRecDepth 100000
open Go Go.RowKit Go.Proofs
set_option linter.unusedVariables false

theorem pcN_le (s:Nat):∀k,Yc s k≤k
 |0=>Nat.le_refl _
 |k+1=>by
  have:=pcN_le s k
  have:=Nat.mod_lt (s/2^k) (show 0<2 by omega)
  show Yc s k+s/2^k%2≤k+1
  omega
theorem mSum_bit {A:List (List Rat)} {D:Nat→Rat} {n s k:Nat} (h:Ja s k≠0):Ks A D n s (k+1)=Ks A D n s k+Ui A D n s k:=if_neg h
theorem mSum_no {A:List (List Rat)} {D:Nat→Rat} {n s k:Nat} (h:Ja s k=0):Ks A D n s (k+1)=Ks A D n s k:=if_pos h
theorem pow_four:∀n,n<5→1≤2^n∧2^n≤16:=by decide
theorem bd_part {A:List (List Rat)} {j t k:Nat} (h4:A.length<5) (hb:BdX j A) (ht:t<2^A.length) (hk:k≤A.length):BdR (1+4*(j+(400*j+900)+1)) (Ks A (mD A A.length) A.length t k):=
 (bd_mSum hb (fun q hq hbit=>bd_minor h4 hb (((Kq A.length h4 t ht).2 q hq).2.2 hbit).2.2.2.1) k hk).mono (Nat.add_le_add_left (Nat.mul_le_mul_right _ (by omega)) _)
theorem cn_minors {A:List (List Rat)} {j:Nat} (h0:0<A.length) (h4:A.length<5) (hr:Rect A.length A) (hb:BdX j A) (hj:j≤2000):∀(M:Nat→Nat→Prop) (w:World) (v0:Value),Mid M w→Box M (fun w=>(Qr Qg A) w v0) w→Calls Tryz.prog 61 #[v0] w (RetB M (Qz (Ym A.length (ent A))) w):=by
 intro M w0 v0 hM hv0
 obtain⟨T,eT⟩:∃T,T=2^A.length:=⟨_,rfl⟩
 have hT:1≤T∧T≤16:=by rw[eT]; exact pow_four _ h4
 refine Q5 (N:=91) Tryz.func61 rfl rfl rfl hM (show EntsA M w0 [v0] [Ez 0 (Qr Qg A)]from⟨⟨rfl,_,rfl,hv0⟩,trivial⟩) fun a hI=>?_
 refine Ql hI [⟨2,2,some 0,none,.ptr,42,3,true,pv Xx,[]⟩] [] [0] .z (.k .z) ?_ (.k .z) (.k .z) fun a w hI=>?_
 ·exact⟨Yx 0 rfl rfl (by kernel_rfl) (by kernel_rfl) rfl rfl rfl zv_R rfl rfl (by simp[Yu]) rfl (fun _=>trivial),trivial⟩
 refine Ql hI [] [Ec 0 12 (Qr Qg A),Ec 1 13 (pI (A.length:Int)),Ec 2 3 (pI (A.length:Int))] [0,1,3] (.k .z) (.k .z) ?_ (.k .z) (.kddk .z) fun a w hI=>?_
 ·exact⟨Qa (.tp 0 rfl) (.here 1 rfl),Q4 (.tp 1 rfl) (Xr).under (.here 2 rfl),Qc (.tp 2 rfl) (.here 3 rfl),trivial⟩
 refine Ql hI [⟨17,17,some 3,some 4,(.row T),42,(T*3),true,pv (Z4 3 true T (fun _=>Xx)),[]⟩,⟨4,4,some 4,none,(.row T),42,(T*3),true,pv (Z4 3 true T (fun _=>Xx)),[]⟩] [Ec 0 14 (pI (A.length:Int)),Ec 1 15 (Qs (.int .u64 ((A.length:Nat):Int))),Ec 2 16 (pI (T:Int))] [0,1,3,7,15] (.k .z) (.kk .z) ?_ (.k (.d (.k .z))) (.kkdd (.d .z)) fun a w hI=>?_
 ·exact⟨Qa (.tp 1 rfl) (.here 2 rfl),Qa0 (.tp 2 rfl) (fun _=>by kernel_rfl) (by omega) (.here 3 rfl),op_shlI (n:=1) (s:=A.length) (.const _) (.tp 3 rfl) (by omega) (by rw[Nat.one_mul,← eT]; omega) (.at_ 4 _ _ rfl (Xc (by rw[Nat.one_mul,← eT]))),Vn (n:=T) (p0:=Xx) (zv:=.agg #[.bool false,.slice none 0 0,.slice none 0 0]) (z:=[.bool false,.slice none 0 0,.slice none 0 0]) 1 rfl rfl (by kernel_rfl) (by kernel_rfl) (by kernel_rfl) rfl rfl rfl rfl rfl (.tp 4 rfl) (.tp 4 rfl) (Zm).under (by kernel_rfl) rfl rfl (by omega) (by simp[Yu]) (fun _=>trivial) (by omega),Qas 1 rfl rfl rfl rfl rfl (by kernel_rfl) rfl 2 rfl rfl rfl rfl rfl rfl rfl rfl (by kernel_rfl) (by kernel_rfl),trivial⟩
 obtain⟨g1,hI⟩:=hI.openRow 1 rfl rfl rfl
 refine Ql hI [] [Ec 0 18 (Qs (.slice (some ⟨g1,0,none⟩) T T)),Ec 1 19 (Qz ((1:Int):Rat)),Ec 2 20 (Qs (.pointer (some ⟨g1,0+((0:Int)).toNat*3,none⟩)))] [0,1,3,7] (.k (.u none [(3,pv (Z4 3 true T (setP (fun _=>Xx) 0 (Qz ((1:Int):Rat)))))] .z)) (.kkk .z) ?_ (.k (.s .o .z)) (.kkkd (.dd .z)) fun a w hI=>?_
 ·exact⟨Qa (.tp 0 rfl) (.here 3 rfl),Zf (fun _ _=>by kernel_rfl) (Yo _) (.const _) (.here 4 rfl) (Qcf 1 (by omega) (by omega)),Xk (.tp 3 rfl) (.const _) Zm (.here 5 rfl),Qaa (sz:=3) (n:=T) (q:=0) (ag:=true) (f:=fun _=>Xx) (p:=Qz ((1:Int):Rat)) 1 rfl rfl rfl (by kernel_rfl) rfl rfl 0 rfl (by kernel_rfl) (by kernel_rfl) (.tp 0 rfl) (.tp 5 rfl) (show 0+((0:Int)).toNat*3=0*3 by omega) (by omega) Yz rfl (.tp 4 rfl) (Yn _),trivial⟩
 refine wp_seq ?_
 refine Ql hI [] [Ec 0 5 (pI 1)] [0] (.k (.k .z)) (.kkk .z) ?_ (.k (.k .z)) (.kkkk .z) fun a w hI=>?_
 ·exact⟨Qc (.const _) (.here 3 rfl),trivial⟩
 refine wp_block ?_
 refine Xz (fun(t:Nat) a w=>(1≤t∧t≤T)∧Inv ⟨91,w0,M,fun _=>False⟩ [⟨2,2,none,none,.ptr,42,3,true,pv Xx,[]⟩,⟨4,4,none,none,(.row T),42,(T*3),true,pv (Z4 3 true T (J8 t (fun i=>Qz (mD A A.length i)) Xx)),[]⟩] [] [Ez 0 (Qr Qg A),Ez 3 (pI (A.length:Int)),Ez 5 (pI (t:Int))] Qi a w) (fun(t:Nat)=>T-t) (1) ⟨⟨Nat.le_refl _,hT.1⟩,(hI.conv ⟨⟨0,_,_,rfl,⟨rfl,rfl,rfl⟩,rfl,fun _=>fun _ _ h=>h⟩,⟨1,_,_,rfl,⟨rfl,rfl,rfl⟩,rfl,fun _=>(Vu fun i hi w v h=>U5 (k:=0) (f:=fun i=>Qz (mD A A.length i)) (z:=Xx) (fun _ _ q=>q) i hi w v h)⟩,trivial⟩ ⟨Qp 1 rfl,Qp 2 rfl,⟨rfl,rfl,3,_,rfl,(Xc (by omega))⟩,trivial⟩)⟩ ?_
 intro t a w hIk
 obtain⟨hp,hI⟩:=hIk
 refine wp_seq ?_
 refine Ql hI [] [Ec 0 21 (pI (t:Int)),Ec 1 22 (pI (A.length:Int)),Ec 2 23 (Qs (.int .u64 ((A.length:Nat):Int))),Ec 3 24 (pI (T:Int)),Ec 4 25 (pB (decide ((t:Int)<(T:Int))))] [0,1,3,7,15] (.k (.k .z)) (.kkk .z) ?_ (.k (.k .z)) (.kkkd (.dddk .z)) fun a w hI=>?_
 ·exact⟨Qa (.tp 2 rfl) (.here 3 rfl),Qa (.tp 1 rfl) (.here 4 rfl),Qa0 (.tp 4 rfl) (fun _=>by kernel_rfl) (by omega) (.here 5 rfl),op_shlI (n:=1) (s:=A.length) (.const _) (.tp 5 rfl) (by omega) (by rw[Nat.one_mul,← eT]; omega) (.at_ 6 _ _ rfl (Xc (by rw[Nat.one_mul,← eT]))),Qk (v:=.bool (decide ((t:Int)<(T:Int)))) (.tp 3 rfl) (.tp 6 rfl) (fun _=>rfl) (.here 7 rfl),trivial⟩
 refine Xm hI 3 rfl (fun ht=>?_) (fun ht=>?_)
 ·have t1:=of_decide_eq_true ht
  refine wp_skip ?_
  refine Qf ?_
  refine wp_seq ?_
  refine wp_block ?_
  refine Ql hI [] [Ec 0 6 (pI (-1))] [0] (.k (.k .z)) (.kkkk .z) ?_ (.k (.k .z)) (.kkkd (.k .z)) fun a w hI=>?_
  ·exact⟨Qc (.const _) (.here 4 rfl),trivial⟩
  refine wp_seq ?_
  refine Ql hI [] [Ec 0 7 (pI 0)] [0] (.k (.k .z)) (.kkkk .z) ?_ (.k (.k .z)) (.kkkk (.k .z)) fun a w hI=>?_
  ·exact⟨Qc (.const _) (.here 4 rfl),trivial⟩
  refine wp_block ?_
  refine Xz (fun(k:Nat) a w=>(k≤A.length)∧Inv ⟨91,w0,M,fun _=>False⟩ [⟨2,2,none,none,.ptr,42,3,true,pv Xx,[]⟩,⟨4,4,none,none,(.row T),42,(T*3),true,pv (Z4 3 true T (J8 t (fun i=>Qz (mD A A.length i)) Xx)),[]⟩] [] [Ez 0 (Qr Qg A),Ez 3 (pI (A.length:Int)),Ez 5 (pI (t:Int)),Ez 6 (pI ((Yc t k:Int)-1)),Ez 7 (pI (k:Int))] Qi a w) (fun(k:Nat)=>A.length-k) (0) ⟨Nat.zero_le _,(hI.conv ⟨⟨0,_,_,rfl,⟨rfl,rfl,rfl⟩,rfl,fun _=>fun _ _ h=>h⟩,⟨1,_,_,rfl,⟨rfl,rfl,rfl⟩,rfl,fun _=>fun _ _ h=>h⟩,trivial⟩ ⟨Qp 0 rfl,Qp 1 rfl,Qp 2 rfl,⟨rfl,rfl,3,_,rfl,(Xc (by show(-1:Int)=(0:Int)-1; omega))⟩,⟨rfl,rfl,4,_,rfl,(Xc (by omega))⟩,trivial⟩)⟩ ?_
  intro k a w hIk
  obtain⟨hp2,hI⟩:=hIk
  refine wp_seq ?_
  refine Ql hI [] [Ec 0 28 (pI (k:Int)),Ec 1 29 (pI (A.length:Int)),Ec 2 30 (pB (decide ((k:Int)<(A.length:Int))))] [0,1,3] (.k (.k .z)) (.kkkk (.k .z)) ?_ (.k (.k .z)) (.kkkk (.kddk .z)) fun a w hI=>?_
  ·exact⟨Qa (.tp 4 rfl) (.here 5 rfl),Qa (.tp 1 rfl) (.here 6 rfl),Qk (v:=.bool (decide ((k:Int)<(A.length:Int)))) (.tp 5 rfl) (.tp 6 rfl) (fun _=>rfl) (.here 7 rfl),trivial⟩
  refine Xm hI 5 rfl (fun ht=>?_) (fun ht=>?_)
  ·have t2:=of_decide_eq_true ht
   refine wp_skip ?_
   refine Qf ?_
   refine wp_seq ?_
   refine wp_block ?_
   have hbit:Ja t k<2:=Nat.mod_lt _ (by omega)
   have hpc:=pcN_le t k
   refine Y4 hI [] [Ec 0 33 (pI ((Yc t k:Int)-1)),Ec 1 34 (pI (t:Int)),Ec 2 35 (pI (k:Int)),Ec 3 36 (Qs (.int .u64 ((k:Nat):Int))),Ec 4 37 (pI ((t/2^k:Nat):Int)),Ec 5 38 (pI (Ja t k:Int)),Ec 6 39 (pI (((Yc t k:Int)-1)+(Ja t k:Int))),Ec 7 6 (pI (((Yc t k:Int)-1)+(Ja t k:Int)))] [0,1,3,7,15,31,63,127] (.k (.k .z)) (.kkk (.t 7 (.kk .z))) ?_ (.k (.k .z)) (.kkkd (.kddd (.dddd (.dk .z)))) fun a w hI=>?_
   ·exact⟨Qa (.tp 3 rfl) (.here 6 rfl),Qa (.tp 2 rfl) (.here 7 rfl),Qa (.tp 4 rfl) (.here 8 rfl),Qa0 (.tp 8 rfl) (fun _=>by kernel_rfl) (by omega) (.here 9 rfl),op_shrI (n:=t) (s:=k) (.tp 7 rfl) (.tp 9 rfl) (by omega) (.here 10 rfl),op_and1 (n:=t/2^k) (.tp 10 rfl) (.const _) (Nat.lt_of_le_of_lt (Nat.div_le_self _ _) (by omega)) (.here 11 rfl),Qk (v:=.int .i64 (IntKind.i64.wrap (((Yc t k:Int)-1)+(Ja t k:Int)))) (.tp 6 rfl) (.tp 11 rfl) (fun _=>rfl) (.at_ 12 _ _ rfl (X8 (by omega))),Qc (.tp 12 rfl) (.here 13 rfl),trivial⟩
   refine Yf ?_
   refine Qf ?_
   refine Y4 hI [] [Ec 0 31 (pI (k:Int)),Ec 1 32 (pI ((k:Int)+(1:Int))),Ec 2 7 (pI ((k:Int)+(1:Int)))] [0,1,3] (.k (.k .z)) (.kkk (.t 2 (.k .z))) ?_ (.k (.k .z)) (.kkkd (.kddk .z)) fun a w hI=>?_
   ·exact⟨Qa (.tp 3 rfl) (.here 5 rfl),Qk (v:=.int .i64 (IntKind.i64.wrap ((k:Int)+(1:Int)))) (.tp 5 rfl) (.const _) (fun _=>rfl) (.at_ 6 _ _ rfl (X8 (by omega))),Qc (.tp 6 rfl) (.here 7 rfl),trivial⟩
   refine Qf ?_
   exact⟨k+1,⟨(show k+1≤A.length by omega),(hI.conv ⟨⟨0,_,_,rfl,⟨rfl,rfl,rfl⟩,rfl,fun _=>fun _ _ h=>h⟩,⟨1,_,_,rfl,⟨rfl,rfl,rfl⟩,rfl,fun _=>fun _ _ h=>h⟩,trivial⟩ ⟨Qp 0 rfl,Qp 1 rfl,Qp 2 rfl,⟨rfl,rfl,3,_,rfl,(Xc (by have e9:Yc t (k+1)=Yc t k+Ja t k:=rfl; omega))⟩,⟨rfl,rfl,4,_,rfl,(Xc (by omega))⟩,trivial⟩)⟩,(show A.length-(k+1)<A.length-k by omega)⟩
  ·have t3:=of_decide_eq_false ht
   refine wp_exit ?_
   refine Qy ?_
   refine Qy ?_
   refine Xv ?_
   refine Qf ?_
   refine Ql hI [⟨8,8,some 1,none,.ptr,42,3,true,pv Xx,[(2,pv (Qz ((0:Int):Rat)))]⟩] [Ec 0 40 (Qz ((0:Int):Rat))] [0,1,3] (.k (.k .z)) (.kkkk (.kk .z)) ?_ (.k (.k (.s .o .z))) (.kkkk (.ddd .z)) fun a w hI=>?_
   ·exact⟨Zf (fun _ _=>by kernel_rfl) (Yo _) (.const _) (.here 6 rfl) (Qcf 0 (by omega) (by omega)),Yx 2 rfl rfl (by kernel_rfl) (by kernel_rfl) rfl rfl rfl zv_R rfl rfl (by simp[Yu]) rfl (fun _=>trivial),X0 2 rfl rfl rfl rfl 0 rfl (by kernel_rfl) (by kernel_rfl) Yz (.tp 6 rfl) (Yn _),trivial⟩
   refine Ql hI [] [Ec 0 9 (pI 0)] [0] (.k (.k (.k .z))) (.kkkk .z) ?_ (.k (.k (.k .z))) (.kkkk (.k .z)) fun a w hI=>?_
   ·exact⟨Qc (.const _) (.here 4 rfl),trivial⟩
   refine wp_seq ?_
   refine Ql hI [] [Ec 0 10 (pI 0)] [0] (.k (.k (.k .z))) (.kkkk (.k .z)) ?_ (.k (.k (.k .z))) (.kkkk (.kk .z)) fun a w hI=>?_
   ·exact⟨Qc (.const _) (.here 5 rfl),trivial⟩
   refine wp_block ?_
   have hpp:=pc_pos A.length h4 t (by rw[← eT]; omega) (by omega)
   have hpl:=pc_le A.length h4 t (by rw[← eT]; omega)
   refine Xz (fun(k3:Nat) a w=>(k3≤A.length)∧Inv ⟨91,w0,M,fun _=>False⟩ [⟨2,2,none,none,.ptr,42,3,true,pv Xx,[]⟩,⟨4,4,none,none,(.row T),42,(T*3),true,pv (Z4 3 true T (J8 t (fun i=>Qz (mD A A.length i)) Xx)),[]⟩,⟨8,8,none,none,.ptr,42,3,true,pv (Qz (Ks A (mD A A.length) A.length t k3)),[]⟩] [] [Ez 0 (Qr Qg A),Ez 3 (pI (A.length:Int)),Ez 5 (pI (t:Int)),Ez 6 (pI ((Yc t A.length-1:Nat):Int)),Ez 9 (pI (Yc t k3:Int)),Ez 10 (pI (k3:Int))] Qi a w) (fun(k3:Nat)=>A.length-k3) (0) ⟨Nat.zero_le _,(hI.conv ⟨⟨0,_,_,rfl,⟨rfl,rfl,rfl⟩,rfl,fun _=>fun _ _ h=>h⟩,⟨1,_,_,rfl,⟨rfl,rfl,rfl⟩,rfl,fun _=>fun _ _ h=>h⟩,⟨2,_,_,rfl,⟨rfl,rfl,rfl⟩,rfl,fun _=>(fun w v h=>by rw[show((0:Int):Rat)=0 from rfl]at h; exact h)⟩,trivial⟩ ⟨Qp 0 rfl,Qp 1 rfl,Qp 2 rfl,⟨rfl,rfl,3,_,rfl,(Xc (by rw[show k=A.length by omega]; omega))⟩,⟨rfl,rfl,4,_,rfl,(Xc rfl)⟩,⟨rfl,rfl,5,_,rfl,(Xc (by omega))⟩,trivial⟩)⟩ ?_
   intro k3 a w hIk
   obtain⟨hp3,hI⟩:=hIk
   refine wp_seq ?_
   refine Ql hI [] [Ec 0 41 (pI (k3:Int)),Ec 1 42 (pI (A.length:Int)),Ec 2 43 (pB (decide ((k3:Int)<(A.length:Int))))] [0,1,3] (.k (.k (.k .z))) (.kkkk (.kk .z)) ?_ (.k (.k (.k .z))) (.kkkk (.kkdd (.k .z))) fun a w hI=>?_
   ·exact⟨Qa (.tp 5 rfl) (.here 6 rfl),Qa (.tp 1 rfl) (.here 7 rfl),Qk (v:=.bool (decide ((k3:Int)<(A.length:Int)))) (.tp 6 rfl) (.tp 7 rfl) (fun _=>rfl) (.here 8 rfl),trivial⟩
   refine Xm hI 6 rfl (fun ht=>?_) (fun ht=>?_)
   ·have t4:=of_decide_eq_true ht
    refine wp_skip ?_
    refine Qf ?_
    refine wp_seq ?_
    refine wp_block ?_
    refine wp_seq ?_
    have hbit:Ja t k3<2:=Nat.mod_lt _ (by omega)
    have hpc:=pcN_le t k3
    refine Ql hI [] [Ec 0 46 (pI (t:Int)),Ec 1 47 (pI (k3:Int)),Ec 2 48 (Qs (.int .u64 ((k3:Nat):Int))),Ec 3 49 (pI ((t/2^k3:Nat):Int)),Ec 4 50 (pI (Ja t k3:Int)),Ec 5 51 (pB ((Ja t k3:Int)==(0:Int)))] [0,1,3,7,15,31] (.k (.k (.k .z))) (.kkkk (.kkk .z)) ?_ (.k (.k (.k .z))) (.kkkk (.kkdd (.dddd (.k .z)))) fun a w hI=>?_
    ·exact⟨Qa (.tp 2 rfl) (.here 7 rfl),Qa (.tp 5 rfl) (.here 8 rfl),Qa0 (.tp 8 rfl) (fun _=>by kernel_rfl) (by omega) (.here 9 rfl),op_shrI (n:=t) (s:=k3) (.tp 7 rfl) (.tp 9 rfl) (by omega) (.here 10 rfl),op_and1 (n:=t/2^k3) (.tp 10 rfl) (.const _) (Nat.lt_of_le_of_lt (Nat.div_le_self _ _) (by omega)) (.here 11 rfl),Qk (v:=.bool (((Ja t k3:Int)==(0:Int)))) (.tp 11 rfl) (.const _) (fun _=>rfl) (.here 12 rfl),trivial⟩
    refine Xm hI 6 rfl (fun ht=>?_) (fun ht=>?_)
    ·have t5:=eq_of_beq ht
     refine wp_exit ?_
     refine Qy ?_
     refine Xv ?_
     refine Qf ?_
     refine Y4 hI [] [Ec 0 44 (pI (k3:Int)),Ec 1 45 (pI ((k3:Int)+(1:Int))),Ec 2 10 (pI ((k3:Int)+(1:Int)))] [0,1,3] (.k (.k (.k .z))) (.kkkk (.k (.t 2 (.k .z)))) ?_ (.k (.k (.k .z))) (.kkkk (.kddd (.dk .z))) fun a w hI=>?_
     ·exact⟨Qa (.tp 5 rfl) (.here 7 rfl),Qk (v:=.int .i64 (IntKind.i64.wrap ((k3:Int)+(1:Int)))) (.tp 7 rfl) (.const _) (fun _=>rfl) (.at_ 8 _ _ rfl (X8 (by omega))),Qc (.tp 8 rfl) (.here 9 rfl),trivial⟩
     refine Qf ?_
     exact⟨k3+1,⟨(show k3+1≤A.length by omega),(hI.conv ⟨⟨0,_,_,rfl,⟨rfl,rfl,rfl⟩,rfl,fun _=>fun _ _ h=>h⟩,⟨1,_,_,rfl,⟨rfl,rfl,rfl⟩,rfl,fun _=>fun _ _ h=>h⟩,⟨2,_,_,rfl,⟨rfl,rfl,rfl⟩,rfl,fun _=>(fun w v h=>by rw[mSum_no (by have:=t5; omega)]; exact h)⟩,trivial⟩ ⟨Qp 0 rfl,Qp 1 rfl,Qp 2 rfl,Qp 3 rfl,⟨rfl,rfl,4,_,rfl,(Xc (by have e9:Yc t (k3+1)=Yc t k3+Ja t k3:=rfl; have:=t5; omega))⟩,⟨rfl,rfl,5,_,rfl,(Xc (by omega))⟩,trivial⟩)⟩,(show A.length-(k3+1)<A.length-k3 by omega)⟩
    ·have t6:=beq_eq_false_iff_ne.1 ht
     refine wp_skip ?_
     refine Qf ?_
     have hbt:Ja t k3≠0:=fun h=>by rw[h]at t6; exact absurd rfl t6
     have hrow:=hr (Yc t A.length-1) (by omega)
     obtain⟨P,eP⟩:∃P,P=2^k3:=⟨_,rfl⟩
     have hP:1≤P∧P≤t:=by rw[eP]; exact⟨Nat.two_pow_pos _,bit_le hbt⟩
     obtain⟨e,ee⟩:∃e,e=t-P:=⟨_,rfl⟩
     have hbe:BdR (400*j+900) (mD A A.length e):=bd_minor h4 hb (by rw[← eT]; omega)
     have hee:mD A A.length e=mD A A.length (t-2^k3):=by rw[ee,eP]
     obtain⟨g2,hI⟩:=hI.openRow 1 rfl rfl rfl
     refine seq_D1 hI [⟨11,11,some 16,none,.ptr,42,3,true,pv Xx,[(17,pv (Qz (((A.getD (Yc t A.length-1) []).getD k3 0)*(mD A A.length e))))]⟩] [Ec 0 52 (Qr Qg A),Ec 1 53 (pI ((Yc t A.length-1:Nat):Int)),Ec 2 54 (Ye 1 false (Qg (A.getD (Yc t A.length-1) []))),Ec 3 55 (Qg (A.getD (Yc t A.length-1) [])),Ec 4 56 (pI (k3:Int)),Ec 5 57 (Ye 3 true (Qz ((A.getD (Yc t A.length-1) []).getD k3 0))),Ec 6 58 (Qz ((A.getD (Yc t A.length-1) []).getD k3 0)),Ec 7 59 (Qs (.slice (some ⟨g2,0,none⟩) T T)),Ec 8 60 (pI (t:Int)),Ec 9 61 (pI (k3:Int)),Ec 10 62 (Qs (.int .u64 ((k3:Nat):Int))),Ec 11 63 (pI (P:Int)),Ec 12 64 (pI (e:Int)),Ec 13 65 (Qs (.pointer (some ⟨g2,0+((e:Int)).toNat*3,none⟩))),Ec 14 66 (Qz (mD A A.length e)),Ec 15 67 (Qz (((A.getD (Yc t A.length-1) []).getD k3 0)*(mD A A.length e)))] [0,0,3,7,0,31,63,0,0,0,512,1536,3840,8064,16256,32767,0,131071] (.k (.k (.k .z))) (.k8 .z) ?_ (.k (.k (.k (.s .o .z)))) (.kkkk (.kkkd (.d8 (.d8 .z)))) fun a w hI=>?_
     ·exact⟨Qa (.tp 1 rfl) (.here 8 rfl),Qa (.tp 4 rfl) (.here 9 rfl),Qw (.tp 8 rfl) (.tp 9 rfl) Xr (.at_ 10 _ _ rfl (by rw[Int.toNat_natCast]; exact fun _ _ h=>h)),Q7 (.tp 10 rfl) J5 ((Zp _)) (.here 11 rfl),Qa (.tp 6 rfl) (.here 12 rfl),Qw (.tp 11 rfl) (.tp 12 rfl) Zm (.at_ 13 _ _ rfl (by rw[Int.toNat_natCast]; exact fun _ _ h=>h)),Q7 (.tp 13 rfl) Yz (Yn _) (.here 14 rfl),Qa (.tp 0 rfl) (.here 15 rfl),Qa (.tp 3 rfl) (.here 16 rfl),Qa (.tp 6 rfl) (.here 17 rfl),Qa0 (.tp 17 rfl) (fun _=>by kernel_rfl) (by omega) (.here 18 rfl),op_shlI (n:=1) (s:=k3) (.const _) (.tp 18 rfl) (by omega) (by rw[Nat.one_mul,← eP]; omega) (.at_ 19 _ _ rfl (Xc (by rw[Nat.one_mul,← eP]))),Qk (v:=.int .i64 (IntKind.i64.wrap ((t:Int)-(P:Int)))) (.tp 16 rfl) (.tp 19 rfl) (fun _=>rfl) (.at_ 20 _ _ rfl (fun w v h=>Xc (by omega) w v (X8 (by omega) w v h))),Xk (.tp 15 rfl) (.tp 20 rfl) Zm (.here 21 rfl),op_loadC (sz:=3) (q:=e) (ag:=true) (f:=J8 t (fun i=>Qz (mD A A.length i)) Xx) 1 rfl rfl rfl (by kernel_rfl) rfl (.tp 0 rfl) (.tp 21 rfl) (show 0+((e:Int)).toNat*3=e*3 by omega) (by omega) Yz rfl (.at_ 22 _ _ rfl (filP_lt (by omega))),Yi (fun _ _=>by kernel_rfl) (Yo _) (.tp 14 rfl) (.tp 22 rfl) (.here 23 rfl) (cn_mul (hb _ k3) hbe (by omega)),Yx 3 rfl rfl (by kernel_rfl) (by kernel_rfl) rfl rfl rfl zv_R rfl rfl (by simp[Yu]) rfl (fun _=>trivial),X0 3 rfl rfl rfl rfl 0 rfl (by kernel_rfl) (by kernel_rfl) Yz (.tp 23 rfl) (Yn _),trivial⟩
     refine wp_seq ?_
     refine Ql hI [] [Ec 0 68 (pI ((Yc t A.length-1:Nat):Int)),Ec 1 69 (pI (Yc t k3:Int)),Ec 2 70 (pI (((Yc t A.length-1:Nat):Int)+(Yc t k3:Int))),Ec 3 71 (pI (((Yc t A.length-1+Yc t k3)%2:Nat):Int)),Ec 4 72 (pB ((((Yc t A.length-1+Yc t k3)%2:Nat):Int)==(1:Int)))] [0,1,3,7,15] (.k (.k (.k (.k .z)))) (.kkkk (.kkk .z)) ?_ (.k (.k (.k (.k .z)))) (.kkkk (.kkkd (.dddk .z))) fun a w hI=>?_
     ·exact⟨Qa (.tp 4 rfl) (.here 7 rfl),Qa (.tp 5 rfl) (.here 8 rfl),Qk (v:=.int .i64 (IntKind.i64.wrap (((Yc t A.length-1:Nat):Int)+(Yc t k3:Int)))) (.tp 7 rfl) (.tp 8 rfl) (fun _=>rfl) (.at_ 9 _ _ rfl (X8 (by omega))),Qk (.tp 9 rfl) (.const _) (bin_rem (by omega)) (.at_ 10 _ _ rfl (Xc (by rw[← Int.natCast_add]; exact(Int.ofNat_tmod _ _).symm))),Qk (v:=.bool (((((Yc t A.length-1+Yc t k3)%2:Nat):Int)==(1:Int)))) (.tp 10 rfl) (.const _) (fun _=>rfl) (.here 11 rfl),trivial⟩
     refine wp_joinT (fun a w=>Inv ⟨91,w0,M,fun _=>False⟩ [⟨2,2,none,none,.ptr,42,3,true,pv Xx,[]⟩,⟨4,4,none,none,(.row T),42,(T*3),true,pv (Z4 3 true T (J8 t (fun i=>Qz (mD A A.length i)) Xx)),[]⟩,⟨8,8,none,none,.ptr,42,3,true,pv (Qz (Ks A (mD A A.length) A.length t k3)),[]⟩,⟨11,11,none,none,.ptr,42,3,true,pv (Qz (Ui A (mD A A.length) A.length t k3)),[]⟩] [] [Ez 4 (Qs (.slice (some ⟨g2,0,none⟩) T T)),Ez 0 (Qr Qg A),Ez 3 (pI (A.length:Int)),Ez 5 (pI (t:Int)),Ez 6 (pI ((Yc t A.length-1:Nat):Int)),Ez 9 (pI (Yc t k3:Int)),Ez 10 (pI (k3:Int))] Qi a w) ?_ ?_
     ·
      refine Xm hI 7 rfl (fun ht=>?_) (fun ht=>?_)
      ·have t7:=eq_of_beq ht
       refine Y4 hI [] [Ec 0 73 (Qz (((A.getD (Yc t A.length-1) []).getD k3 0)*(mD A A.length e))),Ec 1 74 (Qz (-(((A.getD (Yc t A.length-1) []).getD k3 0)*(mD A A.length e))))] [0,1,3] (.k (.k (.k (.u none [(2,pv (Qz (-(((A.getD (Yc t A.length-1) []).getD k3 0)*(mD A A.length e)))))] .z)))) (.k8 .z) ?_ (.k (.k (.k (.s .o .z)))) (.kkkk (.kkkd (.dd .z))) fun a w hI=>?_
       ·exact⟨Xp 3 rfl rfl rfl rfl (by kernel_rfl) Yz rfl (.here 8 rfl),Zf (fun _ _=>by kernel_rfl) (Yo _) (.tp 8 rfl) (.here 9 rfl) (cn_neg _),X0 3 rfl rfl rfl rfl 0 rfl (by kernel_rfl) (by kernel_rfl) Yz (.tp 9 rfl) (Yn _),trivial⟩
       refine Qf ?_
       exact(hI.conv ⟨⟨0,_,_,rfl,⟨rfl,rfl,rfl⟩,rfl,fun _=>fun _ _ h=>h⟩,⟨1,_,_,rfl,⟨rfl,rfl,rfl⟩,rfl,fun _=>fun _ _ h=>h⟩,⟨2,_,_,rfl,⟨rfl,rfl,rfl⟩,rfl,fun _=>fun _ _ h=>h⟩,⟨3,_,_,rfl,⟨rfl,rfl,rfl⟩,rfl,fun _=>(fun w v h=>by rw[hee]at h; unfold Ui; rw[if_pos (by have:=t7; omega)]; exact h)⟩,trivial⟩ ⟨Qp 0 rfl,Qp 1 rfl,Qp 2 rfl,Qp 3 rfl,Qp 4 rfl,Qp 5 rfl,Qp 6 rfl,trivial⟩)
      ·have t8:=beq_eq_false_iff_ne.1 ht
       refine wp_skip ?_
       refine Qf ?_
       exact(hI.conv ⟨⟨0,_,_,rfl,⟨rfl,rfl,rfl⟩,rfl,fun _=>fun _ _ h=>h⟩,⟨1,_,_,rfl,⟨rfl,rfl,rfl⟩,rfl,fun _=>fun _ _ h=>h⟩,⟨2,_,_,rfl,⟨rfl,rfl,rfl⟩,rfl,fun _=>fun _ _ h=>h⟩,⟨3,_,_,rfl,⟨rfl,rfl,rfl⟩,rfl,fun _=>(fun w v h=>by rw[hee]at h; unfold Ui; rw[if_neg (by have:=t8; omega)]; exact h)⟩,trivial⟩ ⟨Qp 0 rfl,Qp 1 rfl,Qp 2 rfl,Qp 3 rfl,Qp 4 rfl,Qp 5 rfl,Qp 6 rfl,trivial⟩)
     ·
      intro a w hI
      refine Ql hI [] [Ec 0 75 (Qz (Ks A (mD A A.length) A.length t k3)),Ec 1 76 (Qz (Ui A (mD A A.length) A.length t k3)),Ec 2 77 (Qz ((Ks A (mD A A.length) A.length t k3)+(Ui A (mD A A.length) A.length t k3)))] [0,1,3,7] (.k (.k (.u none [(3,pv (Qz ((Ks A (mD A A.length) A.length t k3)+(Ui A (mD A A.length) A.length t k3))))] (.k .z)))) (.kkkk (.kkk .z)) ?_ (.k (.k (.s .o (.k .z)))) (.kkkk (.kkkd (.dd .z))) fun a w hI=>?_
      ·exact⟨Xp 2 rfl rfl rfl rfl (by kernel_rfl) Yz rfl (.here 7 rfl),Xp 3 rfl rfl rfl rfl (by kernel_rfl) Yz rfl (.here 8 rfl),Yi (fun _ _=>by kernel_rfl) (Yo _) (.tp 7 rfl) (.tp 8 rfl) (.here 9 rfl) (cn_add (bd_part h4 hb (by rw[← eT]; omega) (show k3≤A.length by omega)) (bd_mTerm (J:=400*j+900) hb (hee▸hbe)) (by omega)),X0 2 rfl rfl rfl rfl 0 rfl (by kernel_rfl) (by kernel_rfl) Yz (.tp 9 rfl) (Yn _),trivial⟩
      refine Y4 hI [] [Ec 0 78 (pI (Yc t k3:Int)),Ec 1 79 (pI ((Yc t k3:Int)+(1:Int))),Ec 2 9 (pI ((Yc t k3:Int)+(1:Int)))] [0,1,3] (.k (.k (.k (.k .z)))) (.kkkk (.k (.t 2 (.k .z)))) ?_ (.k (.k (.k (.k .z)))) (.kkkk (.kdkd (.dk .z))) fun a w hI=>?_
      ·exact⟨Qa (.tp 5 rfl) (.here 7 rfl),Qk (v:=.int .i64 (IntKind.i64.wrap ((Yc t k3:Int)+(1:Int)))) (.tp 7 rfl) (.const _) (fun _=>rfl) (.at_ 8 _ _ rfl (X8 (by omega))),Qc (.tp 8 rfl) (.here 9 rfl),trivial⟩
      refine Yf ?_
      refine Qf ?_
      refine Y4 hI [] [Ec 0 44 (pI (k3:Int)),Ec 1 45 (pI ((k3:Int)+(1:Int))),Ec 2 10 (pI ((k3:Int)+(1:Int)))] [0,1,3] (.k (.k (.k (.k .z)))) (.kkkk (.k (.t 2 (.k .z)))) ?_ (.k (.k (.k (.k .z)))) (.kkkk (.kdkd (.dk .z))) fun a w hI=>?_
      ·exact⟨Qa (.tp 5 rfl) (.here 7 rfl),Qk (v:=.int .i64 (IntKind.i64.wrap ((k3:Int)+(1:Int)))) (.tp 7 rfl) (.const _) (fun _=>rfl) (.at_ 8 _ _ rfl (X8 (by omega))),Qc (.tp 8 rfl) (.here 9 rfl),trivial⟩
      refine Qf ?_
      exact⟨k3+1,⟨(show k3+1≤A.length by omega),(hI.conv ⟨⟨0,_,_,rfl,⟨rfl,rfl,rfl⟩,rfl,fun _=>fun _ _ h=>h⟩,⟨1,_,_,rfl,⟨rfl,rfl,rfl⟩,rfl,fun _=>fun _ _ h=>h⟩,⟨2,_,_,rfl,⟨rfl,rfl,rfl⟩,rfl,fun _=>(fun w v h=>by rw[mSum_bit hbt]; exact h)⟩,trivial⟩ ⟨Qp 1 rfl,Qp 2 rfl,Qp 3 rfl,Qp 4 rfl,⟨rfl,rfl,5,_,rfl,(Xc (by have e9:Yc t (k3+1)=Yc t k3+Ja t k3:=rfl; have:=t6; omega))⟩,⟨rfl,rfl,6,_,rfl,(Xc (by omega))⟩,trivial⟩)⟩,(show A.length-(k3+1)<A.length-k3 by omega)⟩
   ·have t9:=of_decide_eq_false ht
    refine wp_exit ?_
    refine Qy ?_
    refine Qy ?_
    refine Xv ?_
    refine Qf ?_
    obtain⟨g3,hI⟩:=hI.openRow 1 rfl rfl rfl
    refine Y4 hI [] [Ec 0 80 (Qs (.slice (some ⟨g3,0,none⟩) T T)),Ec 1 81 (pI (t:Int)),Ec 2 82 (Qz (Ks A (mD A A.length) A.length t k3)),Ec 3 83 (Qs (.pointer (some ⟨g3,0+((t:Int)).toNat*3,none⟩)))] [0,1,3,7,15] (.k (.u none [(4,pv (Z4 3 true T (setP (J8 t (fun i=>Qz (mD A A.length i)) Xx) t (Qz (Ks A (mD A A.length) A.length t k3)))))] (.k .z))) (.k8 .z) ?_ (.k (.s .o (.k .z))) (.kkkk (.d8 .z)) fun a w hI=>?_
    ·exact⟨Qa (.tp 0 rfl) (.here 8 rfl),Qa (.tp 3 rfl) (.here 9 rfl),Xp 2 rfl rfl rfl rfl (by kernel_rfl) Yz rfl (.here 10 rfl),Xk (.tp 8 rfl) (.tp 9 rfl) Zm (.here 11 rfl),Qaa (sz:=3) (n:=T) (q:=t) (ag:=true) (f:=J8 t (fun i=>Qz (mD A A.length i)) Xx) (p:=Qz (Ks A (mD A A.length) A.length t k3)) 1 rfl rfl rfl (by kernel_rfl) rfl rfl 0 rfl (by kernel_rfl) (by kernel_rfl) (.tp 0 rfl) (.tp 11 rfl) (show 0+((t:Int)).toNat*3=t*3 by omega) (by omega) Yz rfl (.tp 10 rfl) (Yn _),trivial⟩
    refine Yf ?_
    refine Qf ?_
    refine Y4 hI [] [Ec 0 26 (pI (t:Int)),Ec 1 27 (pI ((t:Int)+(1:Int))),Ec 2 5 (pI ((t:Int)+(1:Int)))] [0,1,3] (.k (.k (.k .z))) (.kkk (.t 2 .z)) ?_ (.k (.k (.k .z))) (.kkkd (.ddk .z)) fun a w hI=>?_
    ·exact⟨Qa (.tp 3 rfl) (.here 4 rfl),Qk (v:=.int .i64 (IntKind.i64.wrap ((t:Int)+(1:Int)))) (.tp 4 rfl) (.const _) (fun _=>rfl) (.at_ 5 _ _ rfl (X8 (by omega))),Qc (.tp 5 rfl) (.here 6 rfl),trivial⟩
    refine Qf ?_
    exact⟨t+1,⟨⟨by omega,by omega⟩,(hI.conv ⟨⟨0,_,_,rfl,⟨rfl,rfl,rfl⟩,rfl,fun _=>fun _ _ h=>h⟩,⟨1,_,_,rfl,⟨rfl,rfl,rfl⟩,rfl,fun _=>(Vu (U5 fun w v q=>by rw[mD_eq _ _ (by omega)]; rw[show k3=A.length by omega]at q; exact q))⟩,trivial⟩ ⟨Qp 1 rfl,Qp 2 rfl,⟨rfl,rfl,3,_,rfl,(Xc (by omega))⟩,trivial⟩)⟩,(show T-(t+1)<T-t by omega)⟩
 ·have t10:=of_decide_eq_false ht
  refine wp_exit ?_
  refine Qy ?_
  refine Qy ?_
  refine Xv ?_
  refine Qf ?_
  obtain⟨e,ee⟩:∃e,e=T-1:=⟨_,rfl⟩
  obtain⟨g4,hI⟩:=hI.openRow 1 rfl rfl rfl
  refine Ql hI [] [Ec 0 84 (Qs (.slice (some ⟨g4,0,none⟩) T T)),Ec 1 85 (pI (A.length:Int)),Ec 2 86 (Qs (.int .u64 ((A.length:Nat):Int))),Ec 3 87 (pI (T:Int)),Ec 4 88 (pI (e:Int)),Ec 5 89 (Qs (.pointer (some ⟨g4,0+((e:Int)).toNat*3,none⟩))),Ec 6 90 (Qz (mD A A.length e))] [0,1,3,7,15,31,63,127] (.u none [(7,pv (Qz (mD A A.length e)))] (.k .z)) (.kkkk (.k .z)) ?_ (.s .o (.k .z)) (.d8 (.dddd .z)) fun a w hI=>?_
  ·exact⟨Qa (.tp 0 rfl) (.here 5 rfl),Qa (.tp 2 rfl) (.here 6 rfl),Qa0 (.tp 6 rfl) (fun _=>by kernel_rfl) (by omega) (.here 7 rfl),op_shlI (n:=1) (s:=A.length) (.const _) (.tp 7 rfl) (by omega) (by rw[Nat.one_mul,← eT]; omega) (.at_ 8 _ _ rfl (Xc (by rw[Nat.one_mul,← eT]))),Qk (v:=.int .i64 (IntKind.i64.wrap ((T:Int)-(1:Int)))) (.tp 8 rfl) (.const _) (fun _=>rfl) (.at_ 9 _ _ rfl (fun w v h=>Xc (by omega) w v (X8 (by omega) w v h))),Xk (.tp 5 rfl) (.tp 9 rfl) Zm (.here 10 rfl),op_loadC (sz:=3) (q:=e) (ag:=true) (f:=J8 t (fun i=>Qz (mD A A.length i)) Xx) 1 rfl rfl rfl (by kernel_rfl) rfl (.tp 0 rfl) (.tp 10 rfl) (show 0+((e:Int)).toNat*3=e*3 by omega) (by omega) Yz rfl (.at_ 11 _ _ rfl (filP_lt (by omega))),X0 0 rfl rfl rfl rfl 0 rfl (by kernel_rfl) (by kernel_rfl) Yz (.tp 11 rfl) (Yn _),trivial⟩
  refine wp_ret ?_
  exact Zu hI rfl (ResOk.imp (.cell 0 rfl rfl rfl rfl Yz rfl) (fun w v h=>by rw[ee,eT,minors_det h4]at h; exact h))
end Wx
