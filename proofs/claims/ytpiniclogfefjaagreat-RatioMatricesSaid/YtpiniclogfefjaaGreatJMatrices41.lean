import Derived.Test.YtpiniclogfefjaaGreatCMatricesNMat
namespace Wx
open Go Go.RowKit

theorem wrap_n64 {n:Nat} (h:n<2^64):IntKind.u64.wrap (n:Int)=(n:Int):=by
  have e:IntKind.u64.wrap (n:Int)=(n:Int)%2^64:=by simp[IntKind.wrap,IntKind.signed,IntKind.bits]
  rw[e]
  have h':(n:Int)<2^64:=by exact_mod_cast h
  exact Int.emod_eq_of_lt (Int.natCast_nonneg n) h'
theorem bv_nat (n:Nat):BitVec.ofInt 64 (n:Int)=BitVec.ofNat 64 n:=BitVec.ofInt_natCast 64 n
theorem bv_toNat {n:Nat} (h:n<2^64):(BitVec.ofNat 64 n).toNat=n:=by rw[BitVec.toNat_ofNat]; exact Nat.mod_eq_of_lt h
theorem and_maskN {n k:Nat} (hn:n<2^64) (hk:k≤64):(BitVec.ofInt 64 (n:Int) &&& BitVec.ofInt 64 ((2^k-1:Nat):Int)).toNat=n%2^k:=by
  have h1:2^k-1<2^64:=by
    have:2^k≤2^64:=Nat.pow_le_pow_right (by omega) hk
    have:=Nat.two_pow_pos k
    omega
  rw[bv_nat,bv_nat,BitVec.toNat_and,bv_toNat hn,bv_toNat h1,Nat.and_two_pow_sub_one_eq_mod]
section
variable {P:Program} {ops:Array Oper} {ms:List Nat} {c:Cfg} {V:List Vr} {A:List Al} {G:List Ent} {i:Nat}
variable {d:Nat} {x y:Operand} {ty:TypeId} {pos:String} {aft:Array Edge}
end
end Wx

namespace Wx
open Go Go.RowKit

theorem wrap_i64 {n:Nat} (h:n<2^63):IntKind.i64.wrap (n:Int)=(n:Int):=IntWalk.i64_in _ ⟨by omega,by omega⟩
section
variable {P:Program} {ops:Array Oper} {ms:List Nat} {c:Cfg} {V:List Vr} {A:List Al} {G:List Ent} {i:Nat}
variable {d:Nat} {x y:Operand} {ty:TypeId} {pos:String} {aft:Array Edge}
theorem op_shlI {xt yt:TypeId} {n s:Nat} {yk:IntKind} (h1:Has ms G i x (pI (n:Int))) (h2:Has ms G i y (Qp (.int yk (s:Int)))) (hs:s≤64) (hn:n*2^s<2^63) (hp:Post G i (pI ((n*2^s:Nat):Int))):X5 P ops ms c V A G i ⟨some d,.binOp .shl xt x y yt,ty,pos,aft,none⟩:=by
  refine Qk h1 h2 (fun w=>?_) hp
  show(Op.shift .shl .i64 (n:Int) yk (s:Int)).run P w=_
  unfold Op.shift
  rw[if_neg (by omega)]
  have e:min ((s:Int)).toNat IntKind.i64.bits=s:=by show min ((s:Int)).toNat 64=s; omega
  simp only[e,Sem.run_pure]
  have e2:(n:Int)*2^s=((n*2^s:Nat):Int):=by simp
  rw[e2,wrap_i64 hn]
theorem op_shrI {xt yt:TypeId} {n s:Nat} {yk:IntKind} (h1:Has ms G i x (pI (n:Int))) (h2:Has ms G i y (Qp (.int yk (s:Int)))) (hs:s≤64) (hp:Post G i (pI ((n/2^s:Nat):Int))):X5 P ops ms c V A G i ⟨some d,.binOp .shr xt x y yt,ty,pos,aft,none⟩:=by
  refine Qk h1 h2 (fun w=>?_) hp
  show(Op.shift .shr .i64 (n:Int) yk (s:Int)).run P w=_
  unfold Op.shift
  rw[if_neg (by omega)]
  have e:min ((s:Int)).toNat IntKind.i64.bits=s:=by show min ((s:Int)).toNat 64=s; omega
  simp only[e,Sem.run_pure]
  have e2:((n:Int)).fdiv (2^s)=((n/2^s:Nat):Int):=by
    rw[Int.fdiv_eq_ediv_of_nonneg _ (by exact Int.le_of_lt (Int.pow_pos (by omega)))]
    simp
  rw[e2]
theorem op_and1 {xt yt:TypeId} {n:Nat} (h1:Has ms G i x (pI (n:Int))) (h2:Has ms G i y (pI 1)) (hn:n<2^63) (hp:Post G i (pI ((n%2:Nat):Int))):X5 P ops ms c V A G i ⟨some d,.binOp .and xt x y yt,ty,pos,aft,none⟩:=by
  refine Qk h1 h2 (fun w=>?_) hp
  show Result.ok (Value.int .i64 (IntKind.i64.wrap ((BitVec.ofInt 64 (n:Int) &&& BitVec.ofInt 64 1).toNat:Int))) w=_
  have:=and_maskN (n:=n) (k:=1) (by omega) (by omega)
  have this:(BitVec.ofInt 64 (n:Int) &&& BitVec.ofInt 64 1).toNat=n%2:=this
  rw[this,wrap_i64 (by omega)]
theorem Qa5 {S D:TypeId} {n:Nat} (h:Has ms G i x (pI (n:Int))) (hr:∀w,(Go.convert S D (.int .i64 (n:Int))).run P w=.ok (.int .u64 (IntKind.u64.wrap (n:Int))) w) (hn:n<2^64) (hp:Post G i (Qp (.int .u64 (n:Int)))):X5 P ops ms c V A G i ⟨some d,.convert S D x,ty,pos,aft,none⟩:=
  op_conv (v:=.int .i64 (n:Int)) h (fun w=>by rw[hr w,wrap_n64 hn]) hp
end
end Wx

namespace Wx
set_option maxRecDepth 100000
open Go Go.RowKit Go.Proofs
set_option linter.unusedVariables false

theorem pcN_le (s:Nat):∀k,X9 s k≤k
  |0=>Nat.le_refl _
  |k+1=>by
    have:=pcN_le s k
    have:=Nat.mod_lt (s/2^k) (show 0<2 by omega)
    show X9 s k+s/2^k%2≤k+1
    omega
theorem mSum_bit {A:List (List Rat)} {D:Nat→Rat} {n s k:Nat} (h:Z9 s k≠0):Kr A D n s (k+1)=Kr A D n s k+Uc A D n s k:=if_neg h
theorem mSum_no {A:List (List Rat)} {D:Nat→Rat} {n s k:Nat} (h:Z9 s k=0):Kr A D n s (k+1)=Kr A D n s k:=if_pos h
theorem pow_four:∀n,n<5→1≤2^n∧2^n≤16:=by decide
theorem bd_part {A:List (List Rat)} {j t k:Nat} (h4:A.length<5) (hb:BdX j A) (ht:t<2^A.length) (hk:k≤A.length):BdR (1+4*(j+(400*j+900)+1)) (Kr A (mD A A.length) A.length t k):=
  (bd_mSum hb (fun q hq hbit=>bd_minor h4 hb (((Kq A.length h4 t ht).2 q hq).2.2 hbit).2.2.2.1) k hk).mono (Nat.add_le_add_left (Nat.mul_le_mul_right _ (by omega)) _)
theorem cn_minors {A:List (List Rat)} {j:Nat} (h0:0<A.length) (h4:A.length<5) (hr:Rect A.length A) (hb:BdX j A) (hj:j≤2000):∀(M:Nat→Nat→Prop) (w:World) (v0:Value),Mid M w→Box M (fun w=>(Qd 1 false A.length (fun i=>Qi (A.getD i []))) w v0) w→Calls Tryz.prog 61 #[v0] w (RetB M (Qw (Yj A.length (ent A))) w):=by
  intro M w0 v0 hM hv0
  obtain⟨T,eT⟩:∃T,T=2^A.length:=⟨_,rfl⟩
  have hT:1≤T∧T≤16:=by rw[eT]; exact pow_four _ h4
  refine Q0 (N:=91) Tryz.func61 rfl rfl rfl hM (show EntsA M w0 [v0] [⟨none,none,0,Qd 1 false A.length (fun i=>Qi (A.getD i []))⟩]from⟨⟨rfl,_,rfl,hv0⟩,trivial⟩) fun a hI=>?_
  refine Qe hI [⟨2,2,some 0,none,.ptr,42,3,true,pv Xu,[]⟩] [] [] .z (.k .z) rfl [0] (by kernel_rfl) ?_ (.k .z) (.k .z) fun a w hI=>?_
  · exact⟨Yu 0 rfl rfl (by kernel_rfl) (by kernel_rfl) rfl rfl rfl zv_R rfl rfl (by simp[Yr]) rfl (fun _=>trivial),trivial⟩
  refine Qe hI [] [] [⟨some 0,none,12,Qd 1 false A.length (fun i=>Qi (A.getD i []))⟩,⟨some 1,none,13,pI (A.length:Int)⟩,⟨some 2,none,3,pI (A.length:Int)⟩] (.k .z) (.k .z) rfl [0,1,3] (by kernel_rfl) ?_ (.k .z) (.kddk .z) fun a w hI=>?_
  · exact⟨Qa (.tmp 0 rfl rfl) (.here 1 rfl),Qz (.tmp 1 rfl rfl) (Xo).under (.here 2 rfl),Qc (.tmp 2 rfl rfl) (.here 3 rfl),trivial⟩
  refine Qe hI [⟨17,17,some 3,some 4,(.row T),42,(T*3),true,pv (Z0 3 true T (fun _=>Xu)),[]⟩,⟨4,4,some 4,none,(.row T),42,(T*3),true,pv (Z0 3 true T (fun _=>Xu)),[]⟩] [] [⟨some 0,none,14,pI (A.length:Int)⟩,⟨some 1,none,15,Qp (.int .u64 ((A.length:Nat):Int))⟩,⟨some 2,none,16,pI (T:Int)⟩] (.k .z) (.kk .z) rfl [0,1,3,7,15] (by kernel_rfl) ?_ (.k (.d (.k .z))) (.kkdd (.d .z)) fun a w hI=>?_
  · exact⟨Qa (.tmp 1 rfl rfl) (.here 2 rfl),Qa5 (.tmp 2 rfl rfl) (fun _=>by kernel_rfl) (by omega) (.here 3 rfl),op_shlI (n:=1) (s:=A.length) (.const _) (.tmp 3 rfl rfl) (by omega) (by rw[Nat.one_mul,← eT]; omega) (.at_ 4 _ _ rfl (Q9 (by rw[Nat.one_mul,← eT]))),Vi (n:=T) (p0:=Xu) (zv:=.agg #[.bool false,.slice none 0 0,.slice none 0 0]) (z:=[.bool false,.slice none 0 0,.slice none 0 0]) 1 rfl rfl (by kernel_rfl) (by kernel_rfl) (by kernel_rfl) rfl rfl rfl rfl rfl (.tmp 4 rfl rfl) (.tmp 4 rfl rfl) (Zk).under (by kernel_rfl) rfl rfl (by omega) (by simp[Yr]) (fun _=>trivial) (by omega),Qag 1 rfl rfl rfl rfl rfl (by kernel_rfl) rfl 2 rfl rfl rfl rfl rfl rfl rfl rfl (by kernel_rfl) (by kernel_rfl),trivial⟩
  obtain⟨g1,hI⟩:=hI.openRow 1 rfl rfl rfl
  refine Qe hI [] [] [⟨some 0,none,18,Qp (.slice (some ⟨g1,0,none⟩) T T)⟩,⟨some 1,none,19,Qw ((1:Int):Rat)⟩,⟨some 2,none,20,Qp (.pointer (some ⟨g1,0+((0:Int)).toNat*3,none⟩))⟩] (.k (.u none [(3,pv (Z0 3 true T (setP (fun _=>Xu) 0 (Qw ((1:Int):Rat)))))] .z)) (.kkk .z) rfl [0,1,3,7] (by kernel_rfl) ?_ (.k (.s .o .z)) (.kkkd (.dd .z)) fun a w hI=>?_
  · exact⟨Qa (.tmp 0 rfl rfl) (.here 3 rfl),Zc (fun _ _=>by kernel_rfl) (Yl _) (.const _) (.here 4 rfl) (Qc4 1 (by omega) (by omega)),Xn (.tmp 3 rfl rfl) (.const _) Zk (by omega) (by omega) (by kernel_rfl) (.here 5 rfl),Qaa (sz:=3) (n:=T) (q:=0) (ag:=true) (f:=fun _=>Xu) (p:=Qw ((1:Int):Rat)) 1 rfl rfl rfl (by kernel_rfl) rfl rfl 0 rfl (by kernel_rfl) (by kernel_rfl) (.tmp 0 rfl rfl) (.tmp 5 rfl rfl) (show 0+((0:Int)).toNat*3=0*3 by omega) (by omega) Yw rfl (.tmp 4 rfl rfl) (Yk _),trivial⟩
  refine wp_seq ?_
  refine Qe hI [] [] [⟨some 0,none,5,pI 1⟩] (.k (.k .z)) (.kkk .z) rfl [0] (by kernel_rfl) ?_ (.k (.k .z)) (.kkkk .z) fun a w hI=>?_
  · exact⟨Qc (.const _) (.here 3 rfl),trivial⟩
  refine wp_block ?_
  refine Xw (fun(t:Nat) a w=>(1≤t∧t≤T)∧Inv ⟨91,w0,M,fun _=>False⟩ [⟨2,2,none,none,.ptr,42,3,true,pv Xu,[]⟩,⟨4,4,none,none,(.row T),42,(T*3),true,pv (Z0 3 true T (J5 t (fun i=>Qw (mD A A.length i)) Xu)),[]⟩] [] [⟨none,none,0,Qd 1 false A.length (fun i=>Qi (A.getD i []))⟩,⟨none,none,3,pI (A.length:Int)⟩,⟨none,none,5,pI (t:Int)⟩] Ql a w) (fun(t:Nat)=>T-t) (1) ⟨⟨Nat.le_refl _,hT.1⟩,(hI.conv ⟨⟨0,_,_,rfl,⟨rfl,rfl,rfl⟩,rfl,fun _=>fun _ _ h=>h⟩,⟨1,_,_,rfl,⟨rfl,rfl,rfl⟩,rfl,fun _=>(Vn fun i hi w v h=>Qad (k:=0) (f:=fun i=>Qw (mD A A.length i)) (z:=Xu) (fun _ _ q=>q) i hi w v h)⟩,trivial⟩ ⟨⟨rfl,rfl,1,_,rfl,fun _ _ h=>h⟩,⟨rfl,rfl,2,_,rfl,fun _ _ h=>h⟩,⟨rfl,rfl,3,_,rfl,(Q9 (by omega))⟩,trivial⟩)⟩ ?_
  intro t a w hIk
  obtain⟨hp,hI⟩:=hIk
  refine wp_seq ?_
  refine Qe hI [] [] [⟨some 0,none,21,pI (t:Int)⟩,⟨some 1,none,22,pI (A.length:Int)⟩,⟨some 2,none,23,Qp (.int .u64 ((A.length:Nat):Int))⟩,⟨some 3,none,24,pI (T:Int)⟩,⟨some 4,none,25,pB (decide ((t:Int)<(T:Int)))⟩] (.k (.k .z)) (.kkk .z) rfl [0,1,3,7,15] (by kernel_rfl) ?_ (.k (.k .z)) (.kkkd (.dddk .z)) fun a w hI=>?_
  · exact⟨Qa (.tmp 2 rfl rfl) (.here 3 rfl),Qa (.tmp 1 rfl rfl) (.here 4 rfl),Qa5 (.tmp 4 rfl rfl) (fun _=>by kernel_rfl) (by omega) (.here 5 rfl),op_shlI (n:=1) (s:=A.length) (.const _) (.tmp 5 rfl rfl) (by omega) (by rw[Nat.one_mul,← eT]; omega) (.at_ 6 _ _ rfl (Q9 (by rw[Nat.one_mul,← eT]))),Qk (v:=.bool (decide ((t:Int)<(T:Int)))) (.tmp 3 rfl rfl) (.tmp 6 rfl rfl) (fun _=>rfl) (.here 7 rfl),trivial⟩
  refine Xi hI 3 rfl (fun ht=>?_) (fun ht=>?_)
  · have t1:=of_decide_eq_true ht
    refine wp_skip ?_
    refine Qh ?_
    refine wp_seq ?_
    refine wp_block ?_
    refine Qe hI [] [] [⟨some 0,none,6,pI (-1)⟩] (.k (.k .z)) (.kkkk .z) rfl [0] (by kernel_rfl) ?_ (.k (.k .z)) (.kkkd (.k .z)) fun a w hI=>?_
    · exact⟨Qc (.const _) (.here 4 rfl),trivial⟩
    refine wp_seq ?_
    refine Qe hI [] [] [⟨some 0,none,7,pI 0⟩] (.k (.k .z)) (.kkkk .z) rfl [0] (by kernel_rfl) ?_ (.k (.k .z)) (.kkkk (.k .z)) fun a w hI=>?_
    · exact⟨Qc (.const _) (.here 4 rfl),trivial⟩
    refine wp_block ?_
    refine Xw (fun(k:Nat) a w=>(k≤A.length)∧Inv ⟨91,w0,M,fun _=>False⟩ [⟨2,2,none,none,.ptr,42,3,true,pv Xu,[]⟩,⟨4,4,none,none,(.row T),42,(T*3),true,pv (Z0 3 true T (J5 t (fun i=>Qw (mD A A.length i)) Xu)),[]⟩] [] [⟨none,none,0,Qd 1 false A.length (fun i=>Qi (A.getD i []))⟩,⟨none,none,3,pI (A.length:Int)⟩,⟨none,none,5,pI (t:Int)⟩,⟨none,none,6,pI ((X9 t k:Int)-1)⟩,⟨none,none,7,pI (k:Int)⟩] Ql a w) (fun(k:Nat)=>A.length-k) (0) ⟨Nat.zero_le _,(hI.conv ⟨⟨0,_,_,rfl,⟨rfl,rfl,rfl⟩,rfl,fun _=>fun _ _ h=>h⟩,⟨1,_,_,rfl,⟨rfl,rfl,rfl⟩,rfl,fun _=>fun _ _ h=>h⟩,trivial⟩ ⟨⟨rfl,rfl,0,_,rfl,fun _ _ h=>h⟩,⟨rfl,rfl,1,_,rfl,fun _ _ h=>h⟩,⟨rfl,rfl,2,_,rfl,fun _ _ h=>h⟩,⟨rfl,rfl,3,_,rfl,(Q9 (by show(-1:Int)=(0:Int)-1; omega))⟩,⟨rfl,rfl,4,_,rfl,(Q9 (by omega))⟩,trivial⟩)⟩ ?_
    intro k a w hIk
    obtain⟨hp2,hI⟩:=hIk
    refine wp_seq ?_
    refine Qe hI [] [] [⟨some 0,none,28,pI (k:Int)⟩,⟨some 1,none,29,pI (A.length:Int)⟩,⟨some 2,none,30,pB (decide ((k:Int)<(A.length:Int)))⟩] (.k (.k .z)) (.kkkk (.k .z)) rfl [0,1,3] (by kernel_rfl) ?_ (.k (.k .z)) (.kkkk (.kddk .z)) fun a w hI=>?_
    · exact⟨Qa (.tmp 4 rfl rfl) (.here 5 rfl),Qa (.tmp 1 rfl rfl) (.here 6 rfl),Qk (v:=.bool (decide ((k:Int)<(A.length:Int)))) (.tmp 5 rfl rfl) (.tmp 6 rfl rfl) (fun _=>rfl) (.here 7 rfl),trivial⟩
    refine Xi hI 5 rfl (fun ht=>?_) (fun ht=>?_)
    · have t2:=of_decide_eq_true ht
      refine wp_skip ?_
      refine Qh ?_
      refine wp_seq ?_
      refine wp_block ?_
      have hbit:Z9 t k<2:=Nat.mod_lt _ (by omega)
      have hpc:=pcN_le t k
      refine Y0 hI [] [] [⟨some 0,none,33,pI ((X9 t k:Int)-1)⟩,⟨some 1,none,34,pI (t:Int)⟩,⟨some 2,none,35,pI (k:Int)⟩,⟨some 3,none,36,Qp (.int .u64 ((k:Nat):Int))⟩,⟨some 4,none,37,pI ((t/2^k:Nat):Int)⟩,⟨some 5,none,38,pI (Z9 t k:Int)⟩,⟨some 6,none,39,pI (((X9 t k:Int)-1)+(Z9 t k:Int))⟩,⟨some 7,none,6,pI (((X9 t k:Int)-1)+(Z9 t k:Int))⟩] (.k (.k .z)) (.kkk (.t 7 (.kk .z))) rfl [0,1,3,7,15,31,63,127] (by kernel_rfl) ?_ (.k (.k .z)) (.kkkd (.kddd (.dddd (.dk .z)))) fun a w hI=>?_
      · exact⟨Qa (.tmp 3 rfl rfl) (.here 6 rfl),Qa (.tmp 2 rfl rfl) (.here 7 rfl),Qa (.tmp 4 rfl rfl) (.here 8 rfl),Qa5 (.tmp 8 rfl rfl) (fun _=>by kernel_rfl) (by omega) (.here 9 rfl),op_shrI (n:=t) (s:=k) (.tmp 7 rfl rfl) (.tmp 9 rfl rfl) (by omega) (.here 10 rfl),op_and1 (n:=t/2^k) (.tmp 10 rfl rfl) (.const _) (Nat.lt_of_le_of_lt (Nat.div_le_self _ _) (by omega)) (.here 11 rfl),Qk (v:=.int .i64 (IntKind.i64.wrap (((X9 t k:Int)-1)+(Z9 t k:Int)))) (.tmp 6 rfl rfl) (.tmp 11 rfl rfl) (fun _=>rfl) (.at_ 12 _ _ rfl (X3 (by omega))),Qc (.tmp 12 rfl rfl) (.here 13 rfl),trivial⟩
      refine Yd ?_
      refine Qh ?_
      refine Y0 hI [] [] [⟨some 0,none,31,pI (k:Int)⟩,⟨some 1,none,32,pI ((k:Int)+(1:Int))⟩,⟨some 2,none,7,pI ((k:Int)+(1:Int))⟩] (.k (.k .z)) (.kkk (.t 2 (.k .z))) rfl [0,1,3] (by kernel_rfl) ?_ (.k (.k .z)) (.kkkd (.kddk .z)) fun a w hI=>?_
      · exact⟨Qa (.tmp 3 rfl rfl) (.here 5 rfl),Qk (v:=.int .i64 (IntKind.i64.wrap ((k:Int)+(1:Int)))) (.tmp 5 rfl rfl) (.const _) (fun _=>rfl) (.at_ 6 _ _ rfl (X3 (by omega))),Qc (.tmp 6 rfl rfl) (.here 7 rfl),trivial⟩
      refine Qh ?_
      exact⟨k+1,⟨(show k+1≤A.length by omega),(hI.conv ⟨⟨0,_,_,rfl,⟨rfl,rfl,rfl⟩,rfl,fun _=>fun _ _ h=>h⟩,⟨1,_,_,rfl,⟨rfl,rfl,rfl⟩,rfl,fun _=>fun _ _ h=>h⟩,trivial⟩ ⟨⟨rfl,rfl,0,_,rfl,fun _ _ h=>h⟩,⟨rfl,rfl,1,_,rfl,fun _ _ h=>h⟩,⟨rfl,rfl,2,_,rfl,fun _ _ h=>h⟩,⟨rfl,rfl,3,_,rfl,(Q9 (by have e9:X9 t (k+1)=X9 t k+Z9 t k:=rfl; omega))⟩,⟨rfl,rfl,4,_,rfl,(Q9 (by omega))⟩,trivial⟩)⟩,(show A.length-(k+1)<A.length-k by omega)⟩
    · have t3:=of_decide_eq_false ht
      refine wp_exit ?_
      refine Qv ?_
      refine Qv ?_
      refine Xt ?_
      refine Qh ?_
      refine Qe hI [⟨8,8,some 1,none,.ptr,42,3,true,pv Xu,[(2,pv (Qw ((0:Int):Rat)))]⟩] [] [⟨some 0,none,40,Qw ((0:Int):Rat)⟩] (.k (.k .z)) (.kkkk (.kk .z)) rfl [0,1,3] (by kernel_rfl) ?_ (.k (.k (.s .o .z))) (.kkkk (.ddd .z)) fun a w hI=>?_
      · exact⟨Zc (fun _ _=>by kernel_rfl) (Yl _) (.const _) (.here 6 rfl) (Qc4 0 (by omega) (by omega)),Yu 2 rfl rfl (by kernel_rfl) (by kernel_rfl) rfl rfl rfl zv_R rfl rfl (by simp[Yr]) rfl (fun _=>trivial),Xx 2 rfl rfl rfl rfl 0 rfl (by kernel_rfl) (by kernel_rfl) Yw (.tmp 6 rfl rfl) (Yk _),trivial⟩
      refine Qe hI [] [] [⟨some 0,none,9,pI 0⟩] (.k (.k (.k .z))) (.kkkk .z) rfl [0] (by kernel_rfl) ?_ (.k (.k (.k .z))) (.kkkk (.k .z)) fun a w hI=>?_
      · exact⟨Qc (.const _) (.here 4 rfl),trivial⟩
      refine wp_seq ?_
      refine Qe hI [] [] [⟨some 0,none,10,pI 0⟩] (.k (.k (.k .z))) (.kkkk (.k .z)) rfl [0] (by kernel_rfl) ?_ (.k (.k (.k .z))) (.kkkk (.kk .z)) fun a w hI=>?_
      · exact⟨Qc (.const _) (.here 5 rfl),trivial⟩
      refine wp_block ?_
      have hpp:=pc_pos A.length h4 t (by rw[← eT]; omega) (by omega)
      have hpl:=pc_le A.length h4 t (by rw[← eT]; omega)
      refine Xw (fun(k3:Nat) a w=>(k3≤A.length)∧Inv ⟨91,w0,M,fun _=>False⟩ [⟨2,2,none,none,.ptr,42,3,true,pv Xu,[]⟩,⟨4,4,none,none,(.row T),42,(T*3),true,pv (Z0 3 true T (J5 t (fun i=>Qw (mD A A.length i)) Xu)),[]⟩,⟨8,8,none,none,.ptr,42,3,true,pv (Qw (Kr A (mD A A.length) A.length t k3)),[]⟩] [] [⟨none,none,0,Qd 1 false A.length (fun i=>Qi (A.getD i []))⟩,⟨none,none,3,pI (A.length:Int)⟩,⟨none,none,5,pI (t:Int)⟩,⟨none,none,6,pI ((X9 t A.length-1:Nat):Int)⟩,⟨none,none,9,pI (X9 t k3:Int)⟩,⟨none,none,10,pI (k3:Int)⟩] Ql a w) (fun(k3:Nat)=>A.length-k3) (0) ⟨Nat.zero_le _,(hI.conv ⟨⟨0,_,_,rfl,⟨rfl,rfl,rfl⟩,rfl,fun _=>fun _ _ h=>h⟩,⟨1,_,_,rfl,⟨rfl,rfl,rfl⟩,rfl,fun _=>fun _ _ h=>h⟩,⟨2,_,_,rfl,⟨rfl,rfl,rfl⟩,rfl,fun _=>(fun w v h=>by rw[show((0:Int):Rat)=0 from rfl]at h; exact h)⟩,trivial⟩ ⟨⟨rfl,rfl,0,_,rfl,fun _ _ h=>h⟩,⟨rfl,rfl,1,_,rfl,fun _ _ h=>h⟩,⟨rfl,rfl,2,_,rfl,fun _ _ h=>h⟩,⟨rfl,rfl,3,_,rfl,(Q9 (by rw[show k=A.length by omega]; omega))⟩,⟨rfl,rfl,4,_,rfl,(Q9 rfl)⟩,⟨rfl,rfl,5,_,rfl,(Q9 (by omega))⟩,trivial⟩)⟩ ?_
      intro k3 a w hIk
      obtain⟨hp3,hI⟩:=hIk
      refine wp_seq ?_
      refine Qe hI [] [] [⟨some 0,none,41,pI (k3:Int)⟩,⟨some 1,none,42,pI (A.length:Int)⟩,⟨some 2,none,43,pB (decide ((k3:Int)<(A.length:Int)))⟩] (.k (.k (.k .z))) (.kkkk (.kk .z)) rfl [0,1,3] (by kernel_rfl) ?_ (.k (.k (.k .z))) (.kkkk (.kkdd (.k .z))) fun a w hI=>?_
      · exact⟨Qa (.tmp 5 rfl rfl) (.here 6 rfl),Qa (.tmp 1 rfl rfl) (.here 7 rfl),Qk (v:=.bool (decide ((k3:Int)<(A.length:Int)))) (.tmp 6 rfl rfl) (.tmp 7 rfl rfl) (fun _=>rfl) (.here 8 rfl),trivial⟩
      refine Xi hI 6 rfl (fun ht=>?_) (fun ht=>?_)
      · have t4:=of_decide_eq_true ht
        refine wp_skip ?_
        refine Qh ?_
        refine wp_seq ?_
        refine wp_block ?_
        refine wp_seq ?_
        have hbit:Z9 t k3<2:=Nat.mod_lt _ (by omega)
        have hpc:=pcN_le t k3
        refine Qe hI [] [] [⟨some 0,none,46,pI (t:Int)⟩,⟨some 1,none,47,pI (k3:Int)⟩,⟨some 2,none,48,Qp (.int .u64 ((k3:Nat):Int))⟩,⟨some 3,none,49,pI ((t/2^k3:Nat):Int)⟩,⟨some 4,none,50,pI (Z9 t k3:Int)⟩,⟨some 5,none,51,pB ((Z9 t k3:Int)==(0:Int))⟩] (.k (.k (.k .z))) (.kkkk (.kkk .z)) rfl [0,1,3,7,15,31] (by kernel_rfl) ?_ (.k (.k (.k .z))) (.kkkk (.kkdd (.dddd (.k .z)))) fun a w hI=>?_
        · exact⟨Qa (.tmp 2 rfl rfl) (.here 7 rfl),Qa (.tmp 5 rfl rfl) (.here 8 rfl),Qa5 (.tmp 8 rfl rfl) (fun _=>by kernel_rfl) (by omega) (.here 9 rfl),op_shrI (n:=t) (s:=k3) (.tmp 7 rfl rfl) (.tmp 9 rfl rfl) (by omega) (.here 10 rfl),op_and1 (n:=t/2^k3) (.tmp 10 rfl rfl) (.const _) (Nat.lt_of_le_of_lt (Nat.div_le_self _ _) (by omega)) (.here 11 rfl),Qk (v:=.bool (((Z9 t k3:Int)==(0:Int)))) (.tmp 11 rfl rfl) (.const _) (fun _=>rfl) (.here 12 rfl),trivial⟩
        refine Xi hI 6 rfl (fun ht=>?_) (fun ht=>?_)
        · have t5:=eq_of_beq ht
          refine wp_exit ?_
          refine Qv ?_
          refine Xt ?_
          refine Qh ?_
          refine Y0 hI [] [] [⟨some 0,none,44,pI (k3:Int)⟩,⟨some 1,none,45,pI ((k3:Int)+(1:Int))⟩,⟨some 2,none,10,pI ((k3:Int)+(1:Int))⟩] (.k (.k (.k .z))) (.kkkk (.k (.t 2 (.k .z)))) rfl [0,1,3] (by kernel_rfl) ?_ (.k (.k (.k .z))) (.kkkk (.kddd (.dk .z))) fun a w hI=>?_
          · exact⟨Qa (.tmp 5 rfl rfl) (.here 7 rfl),Qk (v:=.int .i64 (IntKind.i64.wrap ((k3:Int)+(1:Int)))) (.tmp 7 rfl rfl) (.const _) (fun _=>rfl) (.at_ 8 _ _ rfl (X3 (by omega))),Qc (.tmp 8 rfl rfl) (.here 9 rfl),trivial⟩
          refine Qh ?_
          exact⟨k3+1,⟨(show k3+1≤A.length by omega),(hI.conv ⟨⟨0,_,_,rfl,⟨rfl,rfl,rfl⟩,rfl,fun _=>fun _ _ h=>h⟩,⟨1,_,_,rfl,⟨rfl,rfl,rfl⟩,rfl,fun _=>fun _ _ h=>h⟩,⟨2,_,_,rfl,⟨rfl,rfl,rfl⟩,rfl,fun _=>(fun w v h=>by rw[mSum_no (by have:=t5; omega)]; exact h)⟩,trivial⟩ ⟨⟨rfl,rfl,0,_,rfl,fun _ _ h=>h⟩,⟨rfl,rfl,1,_,rfl,fun _ _ h=>h⟩,⟨rfl,rfl,2,_,rfl,fun _ _ h=>h⟩,⟨rfl,rfl,3,_,rfl,fun _ _ h=>h⟩,⟨rfl,rfl,4,_,rfl,(Q9 (by have e9:X9 t (k3+1)=X9 t k3+Z9 t k3:=rfl; have:=t5; omega))⟩,⟨rfl,rfl,5,_,rfl,(Q9 (by omega))⟩,trivial⟩)⟩,(show A.length-(k3+1)<A.length-k3 by omega)⟩
        · have t6:=beq_eq_false_iff_ne.1 ht
          refine wp_skip ?_
          refine Qh ?_
          have hbt:Z9 t k3≠0:=fun h=>by rw[h]at t6; exact absurd rfl t6
          have hrow:=hr (X9 t A.length-1) (by omega)
          obtain⟨P,eP⟩:∃P,P=2^k3:=⟨_,rfl⟩
          have hP:1≤P∧P≤t:=by rw[eP]; exact⟨Nat.two_pow_pos _,bit_le hbt⟩
          obtain⟨e,ee⟩:∃e,e=t-P:=⟨_,rfl⟩
          have hbe:BdR (400*j+900) (mD A A.length e):=bd_minor h4 hb (by rw[← eT]; omega)
          have hee:mD A A.length e=mD A A.length (t-2^k3):=by rw[ee,eP]
          obtain⟨g2,hI⟩:=hI.openRow 1 rfl rfl rfl
          refine seq_D hI [⟨11,11,some 16,none,.ptr,42,3,true,pv Xu,[(17,pv (Qw (((A.getD (X9 t A.length-1) []).getD k3 0)*(mD A A.length e))))]⟩] [] [⟨some 0,none,52,Qd 1 false A.length (fun i=>Qi (A.getD i []))⟩,⟨some 1,none,53,pI ((X9 t A.length-1:Nat):Int)⟩,⟨some 2,none,54,Yb 1 false (Qi (A.getD (X9 t A.length-1) []))⟩,⟨some 3,none,55,Qi (A.getD (X9 t A.length-1) [])⟩,⟨some 4,none,56,pI (k3:Int)⟩,⟨some 5,none,57,Yb 3 true (Qw ((A.getD (X9 t A.length-1) []).getD k3 0))⟩,⟨some 6,none,58,Qw ((A.getD (X9 t A.length-1) []).getD k3 0)⟩,⟨some 7,none,59,Qp (.slice (some ⟨g2,0,none⟩) T T)⟩,⟨some 8,none,60,pI (t:Int)⟩,⟨some 9,none,61,pI (k3:Int)⟩,⟨some 10,none,62,Qp (.int .u64 ((k3:Nat):Int))⟩,⟨some 11,none,63,pI (P:Int)⟩,⟨some 12,none,64,pI (e:Int)⟩,⟨some 13,none,65,Qp (.pointer (some ⟨g2,0+((e:Int)).toNat*3,none⟩))⟩,⟨some 14,none,66,Qw (mD A A.length e)⟩,⟨some 15,none,67,Qw (((A.getD (X9 t A.length-1) []).getD k3 0)*(mD A A.length e))⟩] (.k (.k (.k .z))) (.k8 .z) rfl [0,0,3,7,0,31,63,0,0,0,512,1536,3840,8064,16256,32767,0,131071] (by kernel_rfl) ?_ (.k (.k (.k (.s .o .z)))) (.kkkk (.kkkd (.d8 (.d8 .z)))) fun a w hI=>?_
          · exact⟨Qa (.tmp 1 rfl rfl) (.here 8 rfl),Qa (.tmp 4 rfl rfl) (.here 9 rfl),Qt (.tmp 8 rfl rfl) (.tmp 9 rfl rfl) Xo (by omega) (by omega) (by kernel_rfl) (.at_ 10 _ _ rfl (by rw[Int.toNat_natCast]; exact fun _ _ h=>h)),Q5 (.tmp 10 rfl rfl) J2 ((Zm _)) (.here 11 rfl),Qa (.tmp 6 rfl rfl) (.here 12 rfl),Qt (.tmp 11 rfl rfl) (.tmp 12 rfl rfl) Zk (by omega) (by omega) (by kernel_rfl) (.at_ 13 _ _ rfl (by rw[Int.toNat_natCast]; exact fun _ _ h=>h)),Q5 (.tmp 13 rfl rfl) Yw (Yk _) (.here 14 rfl),Qa (.tmp 0 rfl rfl) (.here 15 rfl),Qa (.tmp 3 rfl rfl) (.here 16 rfl),Qa (.tmp 6 rfl rfl) (.here 17 rfl),Qa5 (.tmp 17 rfl rfl) (fun _=>by kernel_rfl) (by omega) (.here 18 rfl),op_shlI (n:=1) (s:=k3) (.const _) (.tmp 18 rfl rfl) (by omega) (by rw[Nat.one_mul,← eP]; omega) (.at_ 19 _ _ rfl (Q9 (by rw[Nat.one_mul,← eP]))),Qk (v:=.int .i64 (IntKind.i64.wrap ((t:Int)-(P:Int)))) (.tmp 16 rfl rfl) (.tmp 19 rfl rfl) (fun _=>rfl) (.at_ 20 _ _ rfl (fun w v h=>Q9 (by omega) w v (X3 (by omega) w v h))),Xn (.tmp 15 rfl rfl) (.tmp 20 rfl rfl) Zk (by omega) (by omega) (by kernel_rfl) (.here 21 rfl),op_loadC (sz:=3) (q:=e) (ag:=true) (f:=J5 t (fun i=>Qw (mD A A.length i)) Xu) 1 rfl rfl rfl (by kernel_rfl) rfl (.tmp 0 rfl rfl) (.tmp 21 rfl rfl) (show 0+((e:Int)).toNat*3=e*3 by omega) (by omega) Yw rfl (.at_ 22 _ _ rfl (filP_lt (by omega))),Yf (fun _ _=>by kernel_rfl) (Yl _) (.tmp 14 rfl rfl) (.tmp 22 rfl rfl) (.here 23 rfl) (cn_mul (hb _ k3) hbe (by omega)),Yu 3 rfl rfl (by kernel_rfl) (by kernel_rfl) rfl rfl rfl zv_R rfl rfl (by simp[Yr]) rfl (fun _=>trivial),Xx 3 rfl rfl rfl rfl 0 rfl (by kernel_rfl) (by kernel_rfl) Yw (.tmp 23 rfl rfl) (Yk _),trivial⟩
          refine wp_seq ?_
          refine Qe hI [] [] [⟨some 0,none,68,pI ((X9 t A.length-1:Nat):Int)⟩,⟨some 1,none,69,pI (X9 t k3:Int)⟩,⟨some 2,none,70,pI (((X9 t A.length-1:Nat):Int)+(X9 t k3:Int))⟩,⟨some 3,none,71,pI (((X9 t A.length-1+X9 t k3)%2:Nat):Int)⟩,⟨some 4,none,72,pB ((((X9 t A.length-1+X9 t k3)%2:Nat):Int)==(1:Int))⟩] (.k (.k (.k (.k .z)))) (.kkkk (.kkk .z)) rfl [0,1,3,7,15] (by kernel_rfl) ?_ (.k (.k (.k (.k .z)))) (.kkkk (.kkkd (.dddk .z))) fun a w hI=>?_
          · exact⟨Qa (.tmp 4 rfl rfl) (.here 7 rfl),Qa (.tmp 5 rfl rfl) (.here 8 rfl),Qk (v:=.int .i64 (IntKind.i64.wrap (((X9 t A.length-1:Nat):Int)+(X9 t k3:Int)))) (.tmp 7 rfl rfl) (.tmp 8 rfl rfl) (fun _=>rfl) (.at_ 9 _ _ rfl (X3 (by omega))),Qk (.tmp 9 rfl rfl) (.const _) (bin_rem (by omega)) (.at_ 10 _ _ rfl (Q9 (by rw[← Int.natCast_add]; exact(Int.ofNat_tmod _ _).symm))),Qk (v:=.bool (((((X9 t A.length-1+X9 t k3)%2:Nat):Int)==(1:Int)))) (.tmp 10 rfl rfl) (.const _) (fun _=>rfl) (.here 11 rfl),trivial⟩
          refine wp_joinT (fun a w=>Inv ⟨91,w0,M,fun _=>False⟩ [⟨2,2,none,none,.ptr,42,3,true,pv Xu,[]⟩,⟨4,4,none,none,(.row T),42,(T*3),true,pv (Z0 3 true T (J5 t (fun i=>Qw (mD A A.length i)) Xu)),[]⟩,⟨8,8,none,none,.ptr,42,3,true,pv (Qw (Kr A (mD A A.length) A.length t k3)),[]⟩,⟨11,11,none,none,.ptr,42,3,true,pv (Qw (Uc A (mD A A.length) A.length t k3)),[]⟩] [] [⟨none,none,4,Qp (.slice (some ⟨g2,0,none⟩) T T)⟩,⟨none,none,0,Qd 1 false A.length (fun i=>Qi (A.getD i []))⟩,⟨none,none,3,pI (A.length:Int)⟩,⟨none,none,5,pI (t:Int)⟩,⟨none,none,6,pI ((X9 t A.length-1:Nat):Int)⟩,⟨none,none,9,pI (X9 t k3:Int)⟩,⟨none,none,10,pI (k3:Int)⟩] Ql a w) ?_ ?_
          ·
            refine Xi hI 7 rfl (fun ht=>?_) (fun ht=>?_)
            · have t7:=eq_of_beq ht
              refine Y0 hI [] [] [⟨some 0,none,73,Qw (((A.getD (X9 t A.length-1) []).getD k3 0)*(mD A A.length e))⟩,⟨some 1,none,74,Qw (-(((A.getD (X9 t A.length-1) []).getD k3 0)*(mD A A.length e)))⟩] (.k (.k (.k (.u none [(2,pv (Qw (-(((A.getD (X9 t A.length-1) []).getD k3 0)*(mD A A.length e)))))] .z)))) (.k8 .z) rfl [0,1,3] (by kernel_rfl) ?_ (.k (.k (.k (.s .o .z)))) (.kkkk (.kkkd (.dd .z))) fun a w hI=>?_
              · exact⟨Xl 3 rfl rfl rfl rfl (by kernel_rfl) Yw rfl (.here 8 rfl),Zc (fun _ _=>by kernel_rfl) (Yl _) (.tmp 8 rfl rfl) (.here 9 rfl) (cn_neg _),Xx 3 rfl rfl rfl rfl 0 rfl (by kernel_rfl) (by kernel_rfl) Yw (.tmp 9 rfl rfl) (Yk _),trivial⟩
              refine Qh ?_
              exact(hI.conv ⟨⟨0,_,_,rfl,⟨rfl,rfl,rfl⟩,rfl,fun _=>fun _ _ h=>h⟩,⟨1,_,_,rfl,⟨rfl,rfl,rfl⟩,rfl,fun _=>fun _ _ h=>h⟩,⟨2,_,_,rfl,⟨rfl,rfl,rfl⟩,rfl,fun _=>fun _ _ h=>h⟩,⟨3,_,_,rfl,⟨rfl,rfl,rfl⟩,rfl,fun _=>(fun w v h=>by rw[hee]at h; unfold Uc; rw[if_pos (by have:=t7; omega)]; exact h)⟩,trivial⟩ ⟨⟨rfl,rfl,0,_,rfl,fun _ _ h=>h⟩,⟨rfl,rfl,1,_,rfl,fun _ _ h=>h⟩,⟨rfl,rfl,2,_,rfl,fun _ _ h=>h⟩,⟨rfl,rfl,3,_,rfl,fun _ _ h=>h⟩,⟨rfl,rfl,4,_,rfl,fun _ _ h=>h⟩,⟨rfl,rfl,5,_,rfl,fun _ _ h=>h⟩,⟨rfl,rfl,6,_,rfl,fun _ _ h=>h⟩,trivial⟩)
            · have t8:=beq_eq_false_iff_ne.1 ht
              refine wp_skip ?_
              refine Qh ?_
              exact(hI.conv ⟨⟨0,_,_,rfl,⟨rfl,rfl,rfl⟩,rfl,fun _=>fun _ _ h=>h⟩,⟨1,_,_,rfl,⟨rfl,rfl,rfl⟩,rfl,fun _=>fun _ _ h=>h⟩,⟨2,_,_,rfl,⟨rfl,rfl,rfl⟩,rfl,fun _=>fun _ _ h=>h⟩,⟨3,_,_,rfl,⟨rfl,rfl,rfl⟩,rfl,fun _=>(fun w v h=>by rw[hee]at h; unfold Uc; rw[if_neg (by have:=t8; omega)]; exact h)⟩,trivial⟩ ⟨⟨rfl,rfl,0,_,rfl,fun _ _ h=>h⟩,⟨rfl,rfl,1,_,rfl,fun _ _ h=>h⟩,⟨rfl,rfl,2,_,rfl,fun _ _ h=>h⟩,⟨rfl,rfl,3,_,rfl,fun _ _ h=>h⟩,⟨rfl,rfl,4,_,rfl,fun _ _ h=>h⟩,⟨rfl,rfl,5,_,rfl,fun _ _ h=>h⟩,⟨rfl,rfl,6,_,rfl,fun _ _ h=>h⟩,trivial⟩)
          ·
            intro a w hI
            refine Qe hI [] [] [⟨some 0,none,75,Qw (Kr A (mD A A.length) A.length t k3)⟩,⟨some 1,none,76,Qw (Uc A (mD A A.length) A.length t k3)⟩,⟨some 2,none,77,Qw ((Kr A (mD A A.length) A.length t k3)+(Uc A (mD A A.length) A.length t k3))⟩] (.k (.k (.u none [(3,pv (Qw ((Kr A (mD A A.length) A.length t k3)+(Uc A (mD A A.length) A.length t k3))))] (.k .z)))) (.kkkk (.kkk .z)) rfl [0,1,3,7] (by kernel_rfl) ?_ (.k (.k (.s .o (.k .z)))) (.kkkk (.kkkd (.dd .z))) fun a w hI=>?_
            · exact⟨Xl 2 rfl rfl rfl rfl (by kernel_rfl) Yw rfl (.here 7 rfl),Xl 3 rfl rfl rfl rfl (by kernel_rfl) Yw rfl (.here 8 rfl),Yf (fun _ _=>by kernel_rfl) (Yl _) (.tmp 7 rfl rfl) (.tmp 8 rfl rfl) (.here 9 rfl) (cn_add (bd_part h4 hb (by rw[← eT]; omega) (show k3≤A.length by omega)) (bd_mTerm (J:=400*j+900) hb (hee▸hbe)) (by omega)),Xx 2 rfl rfl rfl rfl 0 rfl (by kernel_rfl) (by kernel_rfl) Yw (.tmp 9 rfl rfl) (Yk _),trivial⟩
            refine Y0 hI [] [] [⟨some 0,none,78,pI (X9 t k3:Int)⟩,⟨some 1,none,79,pI ((X9 t k3:Int)+(1:Int))⟩,⟨some 2,none,9,pI ((X9 t k3:Int)+(1:Int))⟩] (.k (.k (.k (.k .z)))) (.kkkk (.k (.t 2 (.k .z)))) rfl [0,1,3] (by kernel_rfl) ?_ (.k (.k (.k (.k .z)))) (.kkkk (.kdkd (.dk .z))) fun a w hI=>?_
            · exact⟨Qa (.tmp 5 rfl rfl) (.here 7 rfl),Qk (v:=.int .i64 (IntKind.i64.wrap ((X9 t k3:Int)+(1:Int)))) (.tmp 7 rfl rfl) (.const _) (fun _=>rfl) (.at_ 8 _ _ rfl (X3 (by omega))),Qc (.tmp 8 rfl rfl) (.here 9 rfl),trivial⟩
            refine Yd ?_
            refine Qh ?_
            refine Y0 hI [] [] [⟨some 0,none,44,pI (k3:Int)⟩,⟨some 1,none,45,pI ((k3:Int)+(1:Int))⟩,⟨some 2,none,10,pI ((k3:Int)+(1:Int))⟩] (.k (.k (.k (.k .z)))) (.kkkk (.k (.t 2 (.k .z)))) rfl [0,1,3] (by kernel_rfl) ?_ (.k (.k (.k (.k .z)))) (.kkkk (.kdkd (.dk .z))) fun a w hI=>?_
            · exact⟨Qa (.tmp 5 rfl rfl) (.here 7 rfl),Qk (v:=.int .i64 (IntKind.i64.wrap ((k3:Int)+(1:Int)))) (.tmp 7 rfl rfl) (.const _) (fun _=>rfl) (.at_ 8 _ _ rfl (X3 (by omega))),Qc (.tmp 8 rfl rfl) (.here 9 rfl),trivial⟩
            refine Qh ?_
            exact⟨k3+1,⟨(show k3+1≤A.length by omega),(hI.conv ⟨⟨0,_,_,rfl,⟨rfl,rfl,rfl⟩,rfl,fun _=>fun _ _ h=>h⟩,⟨1,_,_,rfl,⟨rfl,rfl,rfl⟩,rfl,fun _=>fun _ _ h=>h⟩,⟨2,_,_,rfl,⟨rfl,rfl,rfl⟩,rfl,fun _=>(fun w v h=>by rw[mSum_bit hbt]; exact h)⟩,trivial⟩ ⟨⟨rfl,rfl,1,_,rfl,fun _ _ h=>h⟩,⟨rfl,rfl,2,_,rfl,fun _ _ h=>h⟩,⟨rfl,rfl,3,_,rfl,fun _ _ h=>h⟩,⟨rfl,rfl,4,_,rfl,fun _ _ h=>h⟩,⟨rfl,rfl,5,_,rfl,(Q9 (by have e9:X9 t (k3+1)=X9 t k3+Z9 t k3:=rfl; have:=t6; omega))⟩,⟨rfl,rfl,6,_,rfl,(Q9 (by omega))⟩,trivial⟩)⟩,(show A.length-(k3+1)<A.length-k3 by omega)⟩
      · have t9:=of_decide_eq_false ht
        refine wp_exit ?_
        refine Qv ?_
        refine Qv ?_
        refine Xt ?_
        refine Qh ?_
        obtain⟨g3,hI⟩:=hI.openRow 1 rfl rfl rfl
        refine Y0 hI [] [] [⟨some 0,none,80,Qp (.slice (some ⟨g3,0,none⟩) T T)⟩,⟨some 1,none,81,pI (t:Int)⟩,⟨some 2,none,82,Qw (Kr A (mD A A.length) A.length t k3)⟩,⟨some 3,none,83,Qp (.pointer (some ⟨g3,0+((t:Int)).toNat*3,none⟩))⟩] (.k (.u none [(4,pv (Z0 3 true T (setP (J5 t (fun i=>Qw (mD A A.length i)) Xu) t (Qw (Kr A (mD A A.length) A.length t k3)))))] (.k .z))) (.k8 .z) rfl [0,1,3,7,15] (by kernel_rfl) ?_ (.k (.s .o (.k .z))) (.kkkk (.d8 .z)) fun a w hI=>?_
        · exact⟨Qa (.tmp 0 rfl rfl) (.here 8 rfl),Qa (.tmp 3 rfl rfl) (.here 9 rfl),Xl 2 rfl rfl rfl rfl (by kernel_rfl) Yw rfl (.here 10 rfl),Xn (.tmp 8 rfl rfl) (.tmp 9 rfl rfl) Zk (by omega) (by omega) (by kernel_rfl) (.here 11 rfl),Qaa (sz:=3) (n:=T) (q:=t) (ag:=true) (f:=J5 t (fun i=>Qw (mD A A.length i)) Xu) (p:=Qw (Kr A (mD A A.length) A.length t k3)) 1 rfl rfl rfl (by kernel_rfl) rfl rfl 0 rfl (by kernel_rfl) (by kernel_rfl) (.tmp 0 rfl rfl) (.tmp 11 rfl rfl) (show 0+((t:Int)).toNat*3=t*3 by omega) (by omega) Yw rfl (.tmp 10 rfl rfl) (Yk _),trivial⟩
        refine Yd ?_
        refine Qh ?_
        refine Y0 hI [] [] [⟨some 0,none,26,pI (t:Int)⟩,⟨some 1,none,27,pI ((t:Int)+(1:Int))⟩,⟨some 2,none,5,pI ((t:Int)+(1:Int))⟩] (.k (.k (.k .z))) (.kkk (.t 2 .z)) rfl [0,1,3] (by kernel_rfl) ?_ (.k (.k (.k .z))) (.kkkd (.ddk .z)) fun a w hI=>?_
        · exact⟨Qa (.tmp 3 rfl rfl) (.here 4 rfl),Qk (v:=.int .i64 (IntKind.i64.wrap ((t:Int)+(1:Int)))) (.tmp 4 rfl rfl) (.const _) (fun _=>rfl) (.at_ 5 _ _ rfl (X3 (by omega))),Qc (.tmp 5 rfl rfl) (.here 6 rfl),trivial⟩
        refine Qh ?_
        exact⟨t+1,⟨⟨by omega,by omega⟩,(hI.conv ⟨⟨0,_,_,rfl,⟨rfl,rfl,rfl⟩,rfl,fun _=>fun _ _ h=>h⟩,⟨1,_,_,rfl,⟨rfl,rfl,rfl⟩,rfl,fun _=>(Vn (Qad fun w v q=>by rw[mD_eq _ _ (by omega)]; rw[show k3=A.length by omega]at q; exact q))⟩,trivial⟩ ⟨⟨rfl,rfl,1,_,rfl,fun _ _ h=>h⟩,⟨rfl,rfl,2,_,rfl,fun _ _ h=>h⟩,⟨rfl,rfl,3,_,rfl,(Q9 (by omega))⟩,trivial⟩)⟩,(show T-(t+1)<T-t by omega)⟩
  · have t10:=of_decide_eq_false ht
    refine wp_exit ?_
    refine Qv ?_
    refine Qv ?_
    refine Xt ?_
    refine Qh ?_
    obtain⟨e,ee⟩:∃e,e=T-1:=⟨_,rfl⟩
    obtain⟨g4,hI⟩:=hI.openRow 1 rfl rfl rfl
    refine Qe hI [] [] [⟨some 0,none,84,Qp (.slice (some ⟨g4,0,none⟩) T T)⟩,⟨some 1,none,85,pI (A.length:Int)⟩,⟨some 2,none,86,Qp (.int .u64 ((A.length:Nat):Int))⟩,⟨some 3,none,87,pI (T:Int)⟩,⟨some 4,none,88,pI (e:Int)⟩,⟨some 5,none,89,Qp (.pointer (some ⟨g4,0+((e:Int)).toNat*3,none⟩))⟩,⟨some 6,none,90,Qw (mD A A.length e)⟩] (.u none [(7,pv (Qw (mD A A.length e)))] (.k .z)) (.kkkk (.k .z)) rfl [0,1,3,7,15,31,63,127] (by kernel_rfl) ?_ (.s .o (.k .z)) (.d8 (.dddd .z)) fun a w hI=>?_
    · exact⟨Qa (.tmp 0 rfl rfl) (.here 5 rfl),Qa (.tmp 2 rfl rfl) (.here 6 rfl),Qa5 (.tmp 6 rfl rfl) (fun _=>by kernel_rfl) (by omega) (.here 7 rfl),op_shlI (n:=1) (s:=A.length) (.const _) (.tmp 7 rfl rfl) (by omega) (by rw[Nat.one_mul,← eT]; omega) (.at_ 8 _ _ rfl (Q9 (by rw[Nat.one_mul,← eT]))),Qk (v:=.int .i64 (IntKind.i64.wrap ((T:Int)-(1:Int)))) (.tmp 8 rfl rfl) (.const _) (fun _=>rfl) (.at_ 9 _ _ rfl (fun w v h=>Q9 (by omega) w v (X3 (by omega) w v h))),Xn (.tmp 5 rfl rfl) (.tmp 9 rfl rfl) Zk (by omega) (by omega) (by kernel_rfl) (.here 10 rfl),op_loadC (sz:=3) (q:=e) (ag:=true) (f:=J5 t (fun i=>Qw (mD A A.length i)) Xu) 1 rfl rfl rfl (by kernel_rfl) rfl (.tmp 0 rfl rfl) (.tmp 10 rfl rfl) (show 0+((e:Int)).toNat*3=e*3 by omega) (by omega) Yw rfl (.at_ 11 _ _ rfl (filP_lt (by omega))),Xx 0 rfl rfl rfl rfl 0 rfl (by kernel_rfl) (by kernel_rfl) Yw (.tmp 11 rfl rfl) (Yk _),trivial⟩
    refine wp_ret ?_
    exact Zr hI rfl (ResOk.imp (.cell 0 rfl rfl rfl rfl Yw rfl) (fun w v h=>by rw[ee,eT,minors_det h4]at h; exact h))
end Wx
