import Derived.Test.YtpiniclogfefjaaGreatCSolvesNMat
namespace Wx
open Go Go.RowKit

theorem wrap_n64 {n:Nat} (h:n<2^64):IntKind.u64.wrap (n:Int)=(n:Int):=by
 have e:IntKind.u64.wrap (n:Int)=(n:Int)%2^64:=by simp[IntKind.wrap,IntKind.signed,IntKind.bits]
 rw[e]
 have h':(n:Int)<2^64:=by exact_mod_cast h
 exact Int.emod_eq_of_lt (Int.natCast_nonneg n) h'
theorem bv_nat (n:Nat):BitVec.ofInt 64 (n:Int)=BitVec.ofNat 64 n:=BitVec.ofInt_natCast 64 n
theorem bv_toNat {n:Nat} (h:n<2^64):(BitVec.ofNat 64 n).toNat=n:=by rw[BitVec.toNat_ofNat]; exact Nat.mod_eq_of_lt h
theorem and_maskN {n k:Nat} (hn:n<2^64) (hk:k≤64):(BitVec.ofInt 64 (n:Int) &&& BitVec.ofInt 64 ((2^k-1:Nat):Int)).toNat=n%2^k:=by
 have h1:2^k-1<2^64:=by
  have:2^k≤2^64:=Nat.pow_le_pow_right (by omega) hk
  have:=Nat.two_pow_pos k
  omega
 rw[bv_nat,bv_nat,BitVec.toNat_and,bv_toNat hn,bv_toNat h1,Nat.and_two_pow_sub_one_eq_mod]
section
variable {P:Program} {ops:Array Oper} {ms:List Nat} {c:Cfg} {V:List Vr} {A:List Al} {G:List Ent} {i:Nat}
variable {d:Nat} {x y:Operand} {ty:TypeId} {pos:String} {aft:Array Edge}
end
end Wx

namespace Wx
open Go Go.RowKit

theorem wrap_i64 {n:Nat} (h:n<2^63):IntKind.i64.wrap (n:Int)=(n:Int):=IntWalk.i64_in _ ⟨by omega,by omega⟩
section
variable {P:Program} {ops:Array Oper} {ms:List Nat} {c:Cfg} {V:List Vr} {A:List Al} {G:List Ent} {i:Nat}
variable {d:Nat} {x y:Operand} {ty:TypeId} {pos:String} {aft:Array Edge}
theorem op_shlI {xt yt:TypeId} {n s:Nat} {yk:IntKind} (h1:Has ms G i x (pI (n:Int))) (h2:Has ms G i y (Qi (.int yk (s:Int)))) (hs:s≤64) (hn:n*2^s<2^63) (hp:Post G i (pI ((n*2^s:Nat):Int))):Q0 P ops ms c V A G i ⟨some d,.binOp .shl xt x y yt,ty,pos,aft,none⟩:=by
 refine Q6 h1 h2 (fun w=>?_) hp
 show(Op.shift .shl .i64 (n:Int) yk (s:Int)).run P w=_
 unfold Op.shift
 rw[if_neg (by omega)]
 have e:min ((s:Int)).toNat IntKind.i64.bits=s:=by show min ((s:Int)).toNat 64=s; omega
 simp only[e,Sem.run_pure]
 have e2:(n:Int)*2^s=((n*2^s:Nat):Int):=by simp
 rw[e2,wrap_i64 hn]
theorem op_shrI {xt yt:TypeId} {n s:Nat} {yk:IntKind} (h1:Has ms G i x (pI (n:Int))) (h2:Has ms G i y (Qi (.int yk (s:Int)))) (hs:s≤64) (hp:Post G i (pI ((n/2^s:Nat):Int))):Q0 P ops ms c V A G i ⟨some d,.binOp .shr xt x y yt,ty,pos,aft,none⟩:=by
 refine Q6 h1 h2 (fun w=>?_) hp
 show(Op.shift .shr .i64 (n:Int) yk (s:Int)).run P w=_
 unfold Op.shift
 rw[if_neg (by omega)]
 have e:min ((s:Int)).toNat IntKind.i64.bits=s:=by show min ((s:Int)).toNat 64=s; omega
 simp only[e,Sem.run_pure]
 have e2:((n:Int)).fdiv (2^s)=((n/2^s:Nat):Int):=by
  rw[Int.fdiv_eq_ediv_of_nonneg _ (by exact Int.le_of_lt (Int.pow_pos (by omega)))]
  simp
 rw[e2]
theorem op_and1 {xt yt:TypeId} {n:Nat} (h1:Has ms G i x (pI (n:Int))) (h2:Has ms G i y (pI 1)) (hn:n<2^63) (hp:Post G i (pI ((n%2:Nat):Int))):Q0 P ops ms c V A G i ⟨some d,.binOp .and xt x y yt,ty,pos,aft,none⟩:=by
 refine Q6 h1 h2 (fun w=>?_) hp
 show Result.ok (Value.int .i64 (IntKind.i64.wrap ((BitVec.ofInt 64 (n:Int) &&& BitVec.ofInt 64 1).toNat:Int))) w=_
 have:=and_maskN (n:=n) (k:=1) (by omega) (by omega)
 have this:(BitVec.ofInt 64 (n:Int) &&& BitVec.ofInt 64 1).toNat=n%2:=this
 rw[this,wrap_i64 (by omega)]
theorem Qc1 {S D:TypeId} {n:Nat} (h:Has ms G i x (pI (n:Int))) (hr:∀w,(Go.convert S D (.int .i64 (n:Int))).run P w=.ok (.int .u64 (IntKind.u64.wrap (n:Int))) w) (hn:n<2^64) (hp:Post G i (Qi (.int .u64 (n:Int)))):Q0 P ops ms c V A G i ⟨some d,.convert S D x,ty,pos,aft,none⟩:=
 op_conv (v:=.int .i64 (n:Int)) h (fun w=>by rw[hr w,wrap_n64 hn]) hp
end
end Wx

namespace Wx
attribute [local irreducible] Q0
set_option maxRecDepth 100000
open Go Go.RowKit Go.Proofs
set_option linter.unusedVariables false

theorem pcN_le (s:Nat):∀k,Yy s k≤k
 |0=>Nat.le_refl _
 |k+1=>by
  have:=pcN_le s k
  have:=Nat.mod_lt (s/2^k) (show 0<2 by omega)
  show Yy s k+s/2^k%2≤k+1
  omega
theorem mSum_bit {A:List (List Rat)} {D:Nat→Rat} {n s k:Nat} (h:Kn s k≠0):W7 A D n s (k+1)=W7 A D n s k+Qbe A D n s k:=if_neg h
theorem mSum_no {A:List (List Rat)} {D:Nat→Rat} {n s k:Nat} (h:Kn s k=0):W7 A D n s (k+1)=W7 A D n s k:=if_pos h
theorem pow_four:∀n,n<5→1≤2^n∧2^n≤16:=by decide
theorem bd_part {A:List (List Rat)} {j t k:Nat} (h4:A.length<5) (hb:BdX j A) (ht:t<2^A.length) (hk:k≤A.length):BdR (1+4*(j+(400*j+900)+1)) (W7 A (mD A A.length) A.length t k):=
 (bd_mSum hb (fun q hq hbit=>Qej h4 hb (((Wp A.length h4 t ht).2 q hq).2.2 hbit).2.2.2.1) k hk).mono (Nat.add_le_add_left (Nat.mul_le_mul_right _ (by omega)) _)
theorem Qg8 {A:List (List Rat)} {j:Nat} (h0:0<A.length) (h4:A.length<5) (hr:Rect A.length A) (hb:BdX j A) (hj:j≤2000):∀(M:Nat→Nat→Prop) (w:World) (v0:Value),Mid M w→Box M (fun w=>(Qc 1 false A.length (fun i=>Qk (A.getD i []))) w v0) w→Calls Tryz.prog 61 #[v0] w (RetB M (Qr (Xk A.length (ent A))) w):=by
 intro M w0 v0 hM hv0
 obtain⟨T,eT⟩:∃T,T=2^A.length:=⟨_,rfl⟩
 have hT:1≤T∧T≤16:=by rw[eT]; exact pow_four _ h4
 refine Q8 (N:=91) Tryz.func61 rfl rfl rfl hM (show EntsA M w0 [v0] [⟨none,none,0,Qc 1 false A.length (fun i=>Qk (A.getD i []))⟩]from⟨⟨rfl,_,rfl,hv0⟩,trivial⟩) fun a hI=>?_
 refine Q3 hI 1 [⟨2,2,some 0,none,.ptr,42,3,true,pv Q4,[]⟩] [] [] .z (.k .z) ⟨Jv 0 rfl rfl (by kernel_rfl) (by kernel_rfl) rfl rfl rfl zv_R rfl rfl (by simp[Yw]) rfl (fun _=>trivial),trivial⟩ (.k .z) (.k .z) fun a w hI=>?_
 refine Q3 hI 3 [] [] [Uc 0 12 _,Uc 1 13 (pI (A.length:Int)),Uc 2 3 _] (.k .z) (.k .z) ⟨mv,Qm (.tmp 1 rfl rfl) (Qy).under (.here 2 rfl),mv,trivial⟩ (.k .z) (.kddk .z) fun a w hI=>?_
 refine Q3 hI 5 [⟨17,17,some 3,some 4,(.row T),42,(T*3),true,pv (Yb 3 true T (fun _=>Q4)),[]⟩,⟨4,4,some 4,none,(.row T),42,(T*3),true,pv (Yb 3 true T (fun _=>Q4)),[]⟩] [] [Uc 0 14 _,Uc 1 15 (Qi (.int .u64 ((A.length:Nat):Int))),Uc 2 16 (pI (T:Int))] (.k .z) (.kk .z) ⟨mv,Qc1 (.tmp 2 rfl rfl) (fun _=>by kernel_rfl) (by omega) (.here 3 rfl),op_shlI (n:=1) (s:=A.length) (.const _) (.tmp 3 rfl rfl) (by omega) (by rw[Nat.one_mul,← eT]; omega) (.at_ 4 _ _ rfl (Qw (by rw[Nat.one_mul,← eT]))),Jp (n:=T) (p0:=Q4) (zv:=.agg #[.bool false,.slice none 0 0,.slice none 0 0]) (z:=[.bool false,.slice none 0 0,.slice none 0 0]) 1 rfl rfl (by kernel_rfl) (by kernel_rfl) (by kernel_rfl) rfl rfl rfl rfl rfl (.tmp 4 rfl rfl) (.tmp 4 rfl rfl) (Xz).under (by kernel_rfl) rfl rfl (by omega) (by simp[Yw]) (fun _=>trivial) (by omega),K9 1 rfl rfl rfl rfl rfl (by kernel_rfl) rfl 2 rfl rfl rfl rfl rfl rfl rfl rfl (by kernel_rfl) (by kernel_rfl),trivial⟩ (.k (.d (.k .z))) (.kkdd (.d .z)) fun a w hI=>?_
 obtain⟨g1,hI⟩:=hI.openRow 1 rfl rfl rfl
 refine Q3 hI 4 [] [] [Uc 0 18 _,Uc 1 19 _,Uc 2 20 (Qi (.pointer (some ⟨g1,0+((0:Int)).toNat*3,none⟩)))] (.k (.u none [(3,pv (Yb 3 true T (Zx (fun _=>Q4) 0 (Qr ((1:Int):Rat)))))] .z)) (.kkk .z) ⟨mv,ce1 (X3 _) (Qce 1 (by omega) (by omega)),Qs (.tmp 3 rfl rfl) (.const _) Xz (by omega) (by omega) (by kernel_rfl) (.here 5 rfl),Ji (sz:=3) (n:=T) (q:=0) (ag:=true) (f:=fun _=>Q4) (p:=Qr ((1:Int):Rat)) 1 rfl rfl rfl (by kernel_rfl) rfl rfl 0 rfl (by kernel_rfl) (by kernel_rfl) (.tmp 0 rfl rfl) (.tmp 5 rfl rfl) (show 0+((0:Int)).toNat*3=0*3 by omega) (by omega) Yc rfl (.tmp 4 rfl rfl) (Xt _),trivial⟩ (.k (.s .o .z)) (.kkkd (.dd .z)) fun a w hI=>?_
 refine wp_seq ?_
 refine Q3 hI 1 [] [] [Uc 0 5 _] (.k (.k .z)) (.kkk .z) ⟨mv,trivial⟩ (.k (.k .z)) (.kkkk .z) fun a w hI=>?_
 refine wp_block ?_
 refine Q9 (fun(t:Nat) a w=>(1≤t∧t≤T)∧Inv ⟨91,w0,M,fun _=>False⟩ [⟨2,2,none,none,.ptr,42,3,true,pv Q4,[]⟩,⟨4,4,none,none,(.row T),42,(T*3),true,pv (Yb 3 true T (Yl t (fun i=>Qr (mD A A.length i)) Q4)),[]⟩] [] [⟨none,none,0,Qc 1 false A.length (fun i=>Qk (A.getD i []))⟩,⟨none,none,3,pI (A.length:Int)⟩,⟨none,none,5,pI (t:Int)⟩] Qf a w) (fun(t:Nat)=>T-t) (1) ⟨⟨Nat.le_refl _,hT.1⟩,(hI.conv ⟨⟨0,_,_,rfl,⟨rfl,rfl,rfl⟩,rfl,fun _=>fun _ _ h=>h⟩,⟨1,_,_,rfl,⟨rfl,rfl,rfl⟩,rfl,fun _=>(Zh fun i hi w v h=>Wd (k:=0) (f:=fun i=>Qr (mD A A.length i)) (z:=Q4) (fun _ _ q=>q) i hi w v h)⟩,trivial⟩ ⟨⟨rfl,rfl,1,_,rfl,fun _ _ h=>h⟩,⟨rfl,rfl,2,_,rfl,fun _ _ h=>h⟩,⟨rfl,rfl,3,_,rfl,(Qw (by omega))⟩,trivial⟩)⟩ ?_
 intro t a w hIk
 obtain⟨hp,hI⟩:=hIk
 refine wp_seq ?_
 refine Q3 hI 5 [] [] [Uc 0 21 _,Uc 1 22 _,Uc 2 23 (Qi (.int .u64 ((A.length:Nat):Int))),Uc 3 24 (pI (T:Int)),Uc 4 25 _] (.k (.k .z)) (.kkk .z) ⟨mv,mv,Qc1 (.tmp 4 rfl rfl) (fun _=>by kernel_rfl) (by omega) (.here 5 rfl),op_shlI (n:=1) (s:=A.length) (.const _) (.tmp 5 rfl rfl) (by omega) (by rw[Nat.one_mul,← eT]; omega) (.at_ 6 _ _ rfl (Qw (by rw[Nat.one_mul,← eT]))),bl,trivial⟩ (.k (.k .z)) (.kkkd (.dddk .z)) fun a w hI=>?_
 refine Xa hI 3 rfl (fun ht=>?_) (fun ht=>?_)
 ·have t1:=of_decide_eq_true ht
  refine wp_skip ?_
  refine Qb ?_
  refine wp_seq ?_
  refine wp_block ?_
  refine Q3 hI 1 [] [] [Uc 0 6 _] (.k (.k .z)) (.kkkk .z) ⟨mv,trivial⟩ (.k (.k .z)) (.kkkd (.k .z)) fun a w hI=>?_
  refine wp_seq ?_
  refine Q3 hI 1 [] [] [Uc 0 7 _] (.k (.k .z)) (.kkkk .z) ⟨mv,trivial⟩ (.k (.k .z)) (.kkkk (.k .z)) fun a w hI=>?_
  refine wp_block ?_
  refine Q9 (fun(k:Nat) a w=>(k≤A.length)∧Inv ⟨91,w0,M,fun _=>False⟩ [⟨2,2,none,none,.ptr,42,3,true,pv Q4,[]⟩,⟨4,4,none,none,(.row T),42,(T*3),true,pv (Yb 3 true T (Yl t (fun i=>Qr (mD A A.length i)) Q4)),[]⟩] [] [⟨none,none,0,Qc 1 false A.length (fun i=>Qk (A.getD i []))⟩,⟨none,none,3,pI (A.length:Int)⟩,⟨none,none,5,pI (t:Int)⟩,⟨none,none,6,pI ((Yy t k:Int)-1)⟩,⟨none,none,7,pI (k:Int)⟩] Qf a w) (fun(k:Nat)=>A.length-k) (0) ⟨Nat.zero_le _,(hI.conv ⟨⟨0,_,_,rfl,⟨rfl,rfl,rfl⟩,rfl,fun _=>fun _ _ h=>h⟩,⟨1,_,_,rfl,⟨rfl,rfl,rfl⟩,rfl,fun _=>fun _ _ h=>h⟩,trivial⟩ ⟨⟨rfl,rfl,0,_,rfl,fun _ _ h=>h⟩,⟨rfl,rfl,1,_,rfl,fun _ _ h=>h⟩,⟨rfl,rfl,2,_,rfl,fun _ _ h=>h⟩,⟨rfl,rfl,3,_,rfl,(Qw (by show(-1:Int)=(0:Int)-1; omega))⟩,⟨rfl,rfl,4,_,rfl,(Qw (by omega))⟩,trivial⟩)⟩ ?_
  intro k a w hIk
  obtain⟨hp2,hI⟩:=hIk
  refine wp_seq ?_
  refine Q3 hI 3 [] [] [Uc 0 28 _,Uc 1 29 _,Uc 2 30 _] (.k (.k .z)) (.kkkk (.k .z)) ⟨mv,mv,bl,trivial⟩ (.k (.k .z)) (.kkkk (.kddk .z)) fun a w hI=>?_
  refine Xa hI 5 rfl (fun ht=>?_) (fun ht=>?_)
  ·have t2:=of_decide_eq_true ht
   refine wp_skip ?_
   refine Qb ?_
   refine wp_seq ?_
   refine wp_block ?_
   have hbit:Kn t k<2:=Nat.mod_lt _ (by omega)
   have hpc:=pcN_le t k
   refine Z3 hI 8 [] [] [Uc 0 33 _,Uc 1 34 _,Uc 2 35 _,Uc 3 36 (Qi (.int .u64 ((k:Nat):Int))),Uc 4 37 (pI ((t/2^k:Nat):Int)),Uc 5 38 (pI (Kn t k:Int)),Uc 6 39 _,Uc 7 6 _] (.k (.k .z)) (.kkk (.t 7 (.kk .z))) ⟨mv,mv,mv,Qc1 (.tmp 8 rfl rfl) (fun _=>by kernel_rfl) (by omega) (.here 9 rfl),op_shrI (n:=t) (s:=k) (.tmp 7 rfl rfl) (.tmp 9 rfl rfl) (by omega) (.here 10 rfl),op_and1 (n:=t/2^k) (.tmp 10 rfl rfl) (.const _) (Nat.lt_of_le_of_lt (Nat.div_le_self _ _) (by omega)) (.here 11 rfl),bl,mv,trivial⟩ (.k (.k .z)) (.kkkd (.kddd (.dddd (.dk .z)))) fun a w hI=>?_
   refine Xo ?_
   refine Qb ?_
   refine Z3 hI 3 [] [] [Uc 0 31 _,Uc 1 32 _,Uc 2 7 _] (.k (.k .z)) (.kkk (.t 2 (.k .z))) ⟨mv,bl,mv,trivial⟩ (.k (.k .z)) (.kkkd (.kddk .z)) fun a w hI=>?_
   refine Qb ?_
   exact⟨k+1,⟨(show k+1≤A.length by omega),(hI.conv ⟨⟨0,_,_,rfl,⟨rfl,rfl,rfl⟩,rfl,fun _=>fun _ _ h=>h⟩,⟨1,_,_,rfl,⟨rfl,rfl,rfl⟩,rfl,fun _=>fun _ _ h=>h⟩,trivial⟩ ⟨⟨rfl,rfl,0,_,rfl,fun _ _ h=>h⟩,⟨rfl,rfl,1,_,rfl,fun _ _ h=>h⟩,⟨rfl,rfl,2,_,rfl,fun _ _ h=>h⟩,⟨rfl,rfl,3,_,rfl,(Qw (by have e9:Yy t (k+1)=Yy t k+Kn t k:=rfl; omega))⟩,⟨rfl,rfl,4,_,rfl,(Qw (by omega))⟩,trivial⟩)⟩,(show A.length-(k+1)<A.length-k by omega)⟩
  ·have t3:=of_decide_eq_false ht
   refine wp_exit ?_
   refine Ql ?_
   refine Ql ?_
   refine Q7 ?_
   refine Qb ?_
   refine Q3 hI 3 [⟨8,8,some 1,none,.ptr,42,3,true,pv Q4,[(2,pv (Qr ((0:Int):Rat)))]⟩] [] [Uc 0 40 _] (.k (.k .z)) (.kkkk (.kk .z)) ⟨ce1 (X3 _) (Qce 0 (by omega) (by omega)),Jv 2 rfl rfl (by kernel_rfl) (by kernel_rfl) rfl rfl rfl zv_R rfl rfl (by simp[Yw]) rfl (fun _=>trivial),Za 2 rfl rfl rfl rfl 0 rfl (by kernel_rfl) (by kernel_rfl) Yc (.tmp 6 rfl rfl) (Xt _),trivial⟩ (.k (.k (.s .o .z))) (.kkkk (.ddd .z)) fun a w hI=>?_
   refine Q3 hI 1 [] [] [Uc 0 9 _] (.k (.k (.k .z))) (.kkkk .z) ⟨mv,trivial⟩ (.k (.k (.k .z))) (.kkkk (.k .z)) fun a w hI=>?_
   refine wp_seq ?_
   refine Q3 hI 1 [] [] [Uc 0 10 _] (.k (.k (.k .z))) (.kkkk (.k .z)) ⟨mv,trivial⟩ (.k (.k (.k .z))) (.kkkk (.kk .z)) fun a w hI=>?_
   refine wp_block ?_
   have hpp:=pc_pos A.length h4 t (by rw[← eT]; omega) (by omega)
   have hpl:=pc_le A.length h4 t (by rw[← eT]; omega)
   refine Q9 (fun(k3:Nat) a w=>(k3≤A.length)∧Inv ⟨91,w0,M,fun _=>False⟩ [⟨2,2,none,none,.ptr,42,3,true,pv Q4,[]⟩,⟨4,4,none,none,(.row T),42,(T*3),true,pv (Yb 3 true T (Yl t (fun i=>Qr (mD A A.length i)) Q4)),[]⟩,⟨8,8,none,none,.ptr,42,3,true,pv (Qr (W7 A (mD A A.length) A.length t k3)),[]⟩] [] [⟨none,none,0,Qc 1 false A.length (fun i=>Qk (A.getD i []))⟩,⟨none,none,3,pI (A.length:Int)⟩,⟨none,none,5,pI (t:Int)⟩,⟨none,none,6,pI ((Yy t A.length-1:Nat):Int)⟩,⟨none,none,9,pI (Yy t k3:Int)⟩,⟨none,none,10,pI (k3:Int)⟩] Qf a w) (fun(k3:Nat)=>A.length-k3) (0) ⟨Nat.zero_le _,(hI.conv ⟨⟨0,_,_,rfl,⟨rfl,rfl,rfl⟩,rfl,fun _=>fun _ _ h=>h⟩,⟨1,_,_,rfl,⟨rfl,rfl,rfl⟩,rfl,fun _=>fun _ _ h=>h⟩,⟨2,_,_,rfl,⟨rfl,rfl,rfl⟩,rfl,fun _=>(fun w v h=>by rw[show((0:Int):Rat)=0 from rfl]at h; exact h)⟩,trivial⟩ ⟨⟨rfl,rfl,0,_,rfl,fun _ _ h=>h⟩,⟨rfl,rfl,1,_,rfl,fun _ _ h=>h⟩,⟨rfl,rfl,2,_,rfl,fun _ _ h=>h⟩,⟨rfl,rfl,3,_,rfl,(Qw (by rw[show k=A.length by omega]; omega))⟩,⟨rfl,rfl,4,_,rfl,(Qw rfl)⟩,⟨rfl,rfl,5,_,rfl,(Qw (by omega))⟩,trivial⟩)⟩ ?_
   intro k3 a w hIk
   obtain⟨hp3,hI⟩:=hIk
   refine wp_seq ?_
   refine Q3 hI 3 [] [] [Uc 0 41 _,Uc 1 42 _,Uc 2 43 _] (.k (.k (.k .z))) (.kkkk (.kk .z)) ⟨mv,mv,bl,trivial⟩ (.k (.k (.k .z))) (.kkkk (.kkdd (.k .z))) fun a w hI=>?_
   refine Xa hI 6 rfl (fun ht=>?_) (fun ht=>?_)
   ·have t4:=of_decide_eq_true ht
    refine wp_skip ?_
    refine Qb ?_
    refine wp_seq ?_
    refine wp_block ?_
    refine wp_seq ?_
    have hbit:Kn t k3<2:=Nat.mod_lt _ (by omega)
    have hpc:=pcN_le t k3
    refine Q3 hI 6 [] [] [Uc 0 46 _,Uc 1 47 _,Uc 2 48 (Qi (.int .u64 ((k3:Nat):Int))),Uc 3 49 (pI ((t/2^k3:Nat):Int)),Uc 4 50 (pI (Kn t k3:Int)),Uc 5 51 _] (.k (.k (.k .z))) (.kkkk (.kkk .z)) ⟨mv,mv,Qc1 (.tmp 8 rfl rfl) (fun _=>by kernel_rfl) (by omega) (.here 9 rfl),op_shrI (n:=t) (s:=k3) (.tmp 7 rfl rfl) (.tmp 9 rfl rfl) (by omega) (.here 10 rfl),op_and1 (n:=t/2^k3) (.tmp 10 rfl rfl) (.const _) (Nat.lt_of_le_of_lt (Nat.div_le_self _ _) (by omega)) (.here 11 rfl),bl,trivial⟩ (.k (.k (.k .z))) (.kkkk (.kkdd (.dddd (.k .z)))) fun a w hI=>?_
    refine Xa hI 6 rfl (fun ht=>?_) (fun ht=>?_)
    ·have t5:=eq_of_beq ht
     refine wp_exit ?_
     refine Ql ?_
     refine Q7 ?_
     refine Qb ?_
     refine Z3 hI 3 [] [] [Uc 0 44 _,Uc 1 45 _,Uc 2 10 _] (.k (.k (.k .z))) (.kkkk (.k (.t 2 (.k .z)))) ⟨mv,bl,mv,trivial⟩ (.k (.k (.k .z))) (.kkkk (.kddd (.dk .z))) fun a w hI=>?_
     refine Qb ?_
     exact⟨k3+1,⟨(show k3+1≤A.length by omega),(hI.conv ⟨⟨0,_,_,rfl,⟨rfl,rfl,rfl⟩,rfl,fun _=>fun _ _ h=>h⟩,⟨1,_,_,rfl,⟨rfl,rfl,rfl⟩,rfl,fun _=>fun _ _ h=>h⟩,⟨2,_,_,rfl,⟨rfl,rfl,rfl⟩,rfl,fun _=>(fun w v h=>by rw[mSum_no (by have:=t5; omega)]; exact h)⟩,trivial⟩ ⟨⟨rfl,rfl,0,_,rfl,fun _ _ h=>h⟩,⟨rfl,rfl,1,_,rfl,fun _ _ h=>h⟩,⟨rfl,rfl,2,_,rfl,fun _ _ h=>h⟩,⟨rfl,rfl,3,_,rfl,fun _ _ h=>h⟩,⟨rfl,rfl,4,_,rfl,(Qw (by have e9:Yy t (k3+1)=Yy t k3+Kn t k3:=rfl; have:=t5; omega))⟩,⟨rfl,rfl,5,_,rfl,(Qw (by omega))⟩,trivial⟩)⟩,(show A.length-(k3+1)<A.length-k3 by omega)⟩
    ·have t6:=beq_eq_false_iff_ne.1 ht
     refine wp_skip ?_
     refine Qb ?_
     have hbt:Kn t k3≠0:=fun h=>by rw[h]at t6; exact absurd rfl t6
     have hrow:=hr (Yy t A.length-1) (by omega)
     obtain⟨P,eP⟩:∃P,P=2^k3:=⟨_,rfl⟩
     have hP:1≤P∧P≤t:=by rw[eP]; exact⟨Nat.two_pow_pos _,bit_le hbt⟩
     obtain⟨e,ee⟩:∃e,e=t-P:=⟨_,rfl⟩
     have hbe:BdR (400*j+900) (mD A A.length e):=Qej h4 hb (by rw[← eT]; omega)
     have hee:mD A A.length e=mD A A.length (t-2^k3):=by rw[ee,eP]
     obtain⟨g2,hI⟩:=hI.openRow 1 rfl rfl rfl
     refine sqD hI [0,0,3,7,0,31,63,0,0,0,512,1536,3840,8064,16256,32767,0,131071] [⟨11,11,some 16,none,.ptr,42,3,true,pv Q4,[(17,pv (Qr (((A.getD (Yy t A.length-1) []).getD k3 0)*(mD A A.length e))))]⟩] [] [Uc 0 52 _,Uc 1 53 _,Uc 2 54 _,Uc 3 55 (Qk (A.getD (Yy t A.length-1) [])),Uc 4 56 _,Uc 5 57 _,Uc 6 58 (Qr ((A.getD (Yy t A.length-1) []).getD k3 0)),Uc 7 59 _,Uc 8 60 _,Uc 9 61 _,Uc 10 62 (Qi (.int .u64 ((k3:Nat):Int))),Uc 11 63 (pI (P:Int)),Uc 12 64 (pI (e:Int)),Uc 13 65 (Qi (.pointer (some ⟨g2,0+((e:Int)).toNat*3,none⟩))),Uc 14 66 (Qr (mD A A.length e)),Uc 15 67 _] (.k (.k (.k .z))) (.k8 .z) ⟨mv,mv,Ky Qy,Q5 (.tmp 10 rfl rfl) Jt ((Zb _)) (.here 11 rfl),mv,Ky Xz,Q5 (.tmp 13 rfl rfl) Yc (Xt _) (.here 14 rfl),mv,mv,mv,Qc1 (.tmp 17 rfl rfl) (fun _=>by kernel_rfl) (by omega) (.here 18 rfl),op_shlI (n:=1) (s:=k3) (.const _) (.tmp 18 rfl rfl) (by omega) (by rw[Nat.one_mul,← eP]; omega) (.at_ 19 _ _ rfl (Qw (by rw[Nat.one_mul,← eP]))),Q6 (v:=.int .i64 (IntKind.i64.wrap ((t:Int)-(P:Int)))) (.tmp 16 rfl rfl) (.tmp 19 rfl rfl) (fun _=>rfl) (.at_ 20 _ _ rfl (fun w v h=>Qw (by omega) w v (pI_wrap (by omega) w v h))),Qs (.tmp 15 rfl rfl) (.tmp 20 rfl rfl) Xz (by omega) (by omega) (by kernel_rfl) (.here 21 rfl),Qgq (sz:=3) (q:=e) (ag:=true) (f:=Yl t (fun i=>Qr (mD A A.length i)) Q4) 1 rfl rfl rfl (by kernel_rfl) rfl (.tmp 0 rfl rfl) (.tmp 21 rfl rfl) (show 0+((e:Int)).toNat*3=e*3 by omega) (by omega) Yc rfl (.at_ 22 _ _ rfl (filP_lt (by omega))),ce2 (X3 _) (cn_mul (hb _ k3) hbe (by omega)),Jv 3 rfl rfl (by kernel_rfl) (by kernel_rfl) rfl rfl rfl zv_R rfl rfl (by simp[Yw]) rfl (fun _=>trivial),Za 3 rfl rfl rfl rfl 0 rfl (by kernel_rfl) (by kernel_rfl) Yc (.tmp 23 rfl rfl) (Xt _),trivial⟩ (.k (.k (.k (.s .o .z)))) (.kkkk (.kkkd (.d8 (.d8 .z)))) fun a w hI=>?_
     refine wp_seq ?_
     refine Q3 hI 5 [] [] [Uc 0 68 _,Uc 1 69 _,Uc 2 70 _,Uc 3 71 (pI (((Yy t A.length-1+Yy t k3)%2:Nat):Int)),Uc 4 72 _] (.k (.k (.k (.k .z)))) (.kkkk (.kkk .z)) ⟨mv,mv,bl,Q6 (.tmp 9 rfl rfl) (.const _) (bin_rem (by omega)) (.at_ 10 _ _ rfl (Qw (by rw[← Int.natCast_add]; exact(Int.ofNat_tmod _ _).symm))),bl,trivial⟩ (.k (.k (.k (.k .z)))) (.kkkk (.kkkd (.dddk .z))) fun a w hI=>?_
     refine wp_joinT (fun a w=>Inv ⟨91,w0,M,fun _=>False⟩ [⟨2,2,none,none,.ptr,42,3,true,pv Q4,[]⟩,⟨4,4,none,none,(.row T),42,(T*3),true,pv (Yb 3 true T (Yl t (fun i=>Qr (mD A A.length i)) Q4)),[]⟩,⟨8,8,none,none,.ptr,42,3,true,pv (Qr (W7 A (mD A A.length) A.length t k3)),[]⟩,⟨11,11,none,none,.ptr,42,3,true,pv (Qr (Qbe A (mD A A.length) A.length t k3)),[]⟩] [] [⟨none,none,4,Qi (.slice (some ⟨g2,0,none⟩) T T)⟩,⟨none,none,0,Qc 1 false A.length (fun i=>Qk (A.getD i []))⟩,⟨none,none,3,pI (A.length:Int)⟩,⟨none,none,5,pI (t:Int)⟩,⟨none,none,6,pI ((Yy t A.length-1:Nat):Int)⟩,⟨none,none,9,pI (Yy t k3:Int)⟩,⟨none,none,10,pI (k3:Int)⟩] Qf a w) ?_ ?_
     ·
      refine Xa hI 7 rfl (fun ht=>?_) (fun ht=>?_)
      ·have t7:=eq_of_beq ht
       refine Z3 hI 3 [] [] [Uc 0 73 (Qr (((A.getD (Yy t A.length-1) []).getD k3 0)*(mD A A.length e))),Uc 1 74 _] (.k (.k (.k (.u none [(2,pv (Qr (-(((A.getD (Yy t A.length-1) []).getD k3 0)*(mD A A.length e)))))] .z)))) (.k8 .z) ⟨Xy 3 rfl rfl rfl rfl (by kernel_rfl) Yc rfl (.here 8 rfl),ce1 (X3 _) (cn_neg _),Za 3 rfl rfl rfl rfl 0 rfl (by kernel_rfl) (by kernel_rfl) Yc (.tmp 9 rfl rfl) (Xt _),trivial⟩ (.k (.k (.k (.s .o .z)))) (.kkkk (.kkkd (.dd .z))) fun a w hI=>?_
       refine Qb ?_
       exact(hI.conv ⟨⟨0,_,_,rfl,⟨rfl,rfl,rfl⟩,rfl,fun _=>fun _ _ h=>h⟩,⟨1,_,_,rfl,⟨rfl,rfl,rfl⟩,rfl,fun _=>fun _ _ h=>h⟩,⟨2,_,_,rfl,⟨rfl,rfl,rfl⟩,rfl,fun _=>fun _ _ h=>h⟩,⟨3,_,_,rfl,⟨rfl,rfl,rfl⟩,rfl,fun _=>(fun w v h=>by rw[hee]at h; unfold Qbe; rw[if_pos (by have:=t7; omega)]; exact h)⟩,trivial⟩ ⟨⟨rfl,rfl,0,_,rfl,fun _ _ h=>h⟩,⟨rfl,rfl,1,_,rfl,fun _ _ h=>h⟩,⟨rfl,rfl,2,_,rfl,fun _ _ h=>h⟩,⟨rfl,rfl,3,_,rfl,fun _ _ h=>h⟩,⟨rfl,rfl,4,_,rfl,fun _ _ h=>h⟩,⟨rfl,rfl,5,_,rfl,fun _ _ h=>h⟩,⟨rfl,rfl,6,_,rfl,fun _ _ h=>h⟩,trivial⟩)
      ·have t8:=beq_eq_false_iff_ne.1 ht
       refine wp_skip ?_
       refine Qb ?_
       exact(hI.conv ⟨⟨0,_,_,rfl,⟨rfl,rfl,rfl⟩,rfl,fun _=>fun _ _ h=>h⟩,⟨1,_,_,rfl,⟨rfl,rfl,rfl⟩,rfl,fun _=>fun _ _ h=>h⟩,⟨2,_,_,rfl,⟨rfl,rfl,rfl⟩,rfl,fun _=>fun _ _ h=>h⟩,⟨3,_,_,rfl,⟨rfl,rfl,rfl⟩,rfl,fun _=>(fun w v h=>by rw[hee]at h; unfold Qbe; rw[if_neg (by have:=t8; omega)]; exact h)⟩,trivial⟩ ⟨⟨rfl,rfl,0,_,rfl,fun _ _ h=>h⟩,⟨rfl,rfl,1,_,rfl,fun _ _ h=>h⟩,⟨rfl,rfl,2,_,rfl,fun _ _ h=>h⟩,⟨rfl,rfl,3,_,rfl,fun _ _ h=>h⟩,⟨rfl,rfl,4,_,rfl,fun _ _ h=>h⟩,⟨rfl,rfl,5,_,rfl,fun _ _ h=>h⟩,⟨rfl,rfl,6,_,rfl,fun _ _ h=>h⟩,trivial⟩)
     ·
      intro a w hI
      refine Q3 hI 4 [] [] [Uc 0 75 (Qr (W7 A (mD A A.length) A.length t k3)),Uc 1 76 (Qr (Qbe A (mD A A.length) A.length t k3)),Uc 2 77 _] (.k (.k (.u none [(3,pv (Qr ((W7 A (mD A A.length) A.length t k3)+(Qbe A (mD A A.length) A.length t k3))))] (.k .z)))) (.kkkk (.kkk .z)) ⟨Xy 2 rfl rfl rfl rfl (by kernel_rfl) Yc rfl (.here 7 rfl),Xy 3 rfl rfl rfl rfl (by kernel_rfl) Yc rfl (.here 8 rfl),ce2 (X3 _) (cn_add (bd_part h4 hb (by rw[← eT]; omega) (show k3≤A.length by omega)) (bd_mTerm (J:=400*j+900) hb (hee▸hbe)) (by omega)) (Ya rfl) (Ya rfl),Za 2 rfl rfl rfl rfl 0 rfl (by kernel_rfl) (by kernel_rfl) Yc (.tmp 9 rfl rfl) (Xt _),trivial⟩ (.k (.k (.s .o (.k .z)))) (.kkkk (.kkkd (.dd .z))) fun a w hI=>?_
      refine Z3 hI 3 [] [] [Uc 0 78 _,Uc 1 79 _,Uc 2 9 _] (.k (.k (.k (.k .z)))) (.kkkk (.k (.t 2 (.k .z)))) ⟨mv,bl,mv,trivial⟩ (.k (.k (.k (.k .z)))) (.kkkk (.kdkd (.dk .z))) fun a w hI=>?_
      refine Xo ?_
      refine Qb ?_
      refine Z3 hI 3 [] [] [Uc 0 44 _,Uc 1 45 _,Uc 2 10 _] (.k (.k (.k (.k .z)))) (.kkkk (.k (.t 2 (.k .z)))) ⟨mv,bl,mv,trivial⟩ (.k (.k (.k (.k .z)))) (.kkkk (.kdkd (.dk .z))) fun a w hI=>?_
      refine Qb ?_
      exact⟨k3+1,⟨(show k3+1≤A.length by omega),(hI.conv ⟨⟨0,_,_,rfl,⟨rfl,rfl,rfl⟩,rfl,fun _=>fun _ _ h=>h⟩,⟨1,_,_,rfl,⟨rfl,rfl,rfl⟩,rfl,fun _=>fun _ _ h=>h⟩,⟨2,_,_,rfl,⟨rfl,rfl,rfl⟩,rfl,fun _=>(fun w v h=>by rw[mSum_bit hbt]; exact h)⟩,trivial⟩ ⟨⟨rfl,rfl,1,_,rfl,fun _ _ h=>h⟩,⟨rfl,rfl,2,_,rfl,fun _ _ h=>h⟩,⟨rfl,rfl,3,_,rfl,fun _ _ h=>h⟩,⟨rfl,rfl,4,_,rfl,fun _ _ h=>h⟩,⟨rfl,rfl,5,_,rfl,(Qw (by have e9:Yy t (k3+1)=Yy t k3+Kn t k3:=rfl; have:=t6; omega))⟩,⟨rfl,rfl,6,_,rfl,(Qw (by omega))⟩,trivial⟩)⟩,(show A.length-(k3+1)<A.length-k3 by omega)⟩
   ·have t9:=of_decide_eq_false ht
    refine wp_exit ?_
    refine Ql ?_
    refine Ql ?_
    refine Q7 ?_
    refine Qb ?_
    obtain⟨g3,hI⟩:=hI.openRow 1 rfl rfl rfl
    refine Z3 hI 5 [] [] [Uc 0 80 _,Uc 1 81 _,Uc 2 82 (Qr (W7 A (mD A A.length) A.length t k3)),Uc 3 83 (Qi (.pointer (some ⟨g3,0+((t:Int)).toNat*3,none⟩)))] (.k (.u none [(4,pv (Yb 3 true T (Zx (Yl t (fun i=>Qr (mD A A.length i)) Q4) t (Qr (W7 A (mD A A.length) A.length t k3)))))] (.k .z))) (.k8 .z) ⟨mv,mv,Xy 2 rfl rfl rfl rfl (by kernel_rfl) Yc rfl (.here 10 rfl),Qs (.tmp 8 rfl rfl) (.tmp 9 rfl rfl) Xz (by omega) (by omega) (by kernel_rfl) (.here 11 rfl),Ji (sz:=3) (n:=T) (q:=t) (ag:=true) (f:=Yl t (fun i=>Qr (mD A A.length i)) Q4) (p:=Qr (W7 A (mD A A.length) A.length t k3)) 1 rfl rfl rfl (by kernel_rfl) rfl rfl 0 rfl (by kernel_rfl) (by kernel_rfl) (.tmp 0 rfl rfl) (.tmp 11 rfl rfl) (show 0+((t:Int)).toNat*3=t*3 by omega) (by omega) Yc rfl (.tmp 10 rfl rfl) (Xt _),trivial⟩ (.k (.s .o (.k .z))) (.kkkk (.d8 .z)) fun a w hI=>?_
    refine Xo ?_
    refine Qb ?_
    refine Z3 hI 3 [] [] [Uc 0 26 _,Uc 1 27 _,Uc 2 5 _] (.k (.k (.k .z))) (.kkk (.t 2 .z)) ⟨mv,bl,mv,trivial⟩ (.k (.k (.k .z))) (.kkkd (.ddk .z)) fun a w hI=>?_
    refine Qb ?_
    exact⟨t+1,⟨⟨by omega,by omega⟩,(hI.conv ⟨⟨0,_,_,rfl,⟨rfl,rfl,rfl⟩,rfl,fun _=>fun _ _ h=>h⟩,⟨1,_,_,rfl,⟨rfl,rfl,rfl⟩,rfl,fun _=>(Zh (Wd fun w v q=>by rw[mD_eq _ _ (by omega)]; rw[show k3=A.length by omega]at q; exact q))⟩,trivial⟩ ⟨⟨rfl,rfl,1,_,rfl,fun _ _ h=>h⟩,⟨rfl,rfl,2,_,rfl,fun _ _ h=>h⟩,⟨rfl,rfl,3,_,rfl,(Qw (by omega))⟩,trivial⟩)⟩,(show T-(t+1)<T-t by omega)⟩
 ·have t10:=of_decide_eq_false ht
  refine wp_exit ?_
  refine Ql ?_
  refine Ql ?_
  refine Q7 ?_
  refine Qb ?_
  obtain⟨e,ee⟩:∃e,e=T-1:=⟨_,rfl⟩
  obtain⟨g4,hI⟩:=hI.openRow 1 rfl rfl rfl
  refine Q3 hI 8 [] [] [Uc 0 84 _,Uc 1 85 _,Uc 2 86 (Qi (.int .u64 ((A.length:Nat):Int))),Uc 3 87 (pI (T:Int)),Uc 4 88 (pI (e:Int)),Uc 5 89 (Qi (.pointer (some ⟨g4,0+((e:Int)).toNat*3,none⟩))),Uc 6 90 (Qr (mD A A.length e))] (.u none [(7,pv (Qr (mD A A.length e)))] (.k .z)) (.kkkk (.k .z)) ⟨mv,mv,Qc1 (.tmp 6 rfl rfl) (fun _=>by kernel_rfl) (by omega) (.here 7 rfl),op_shlI (n:=1) (s:=A.length) (.const _) (.tmp 7 rfl rfl) (by omega) (by rw[Nat.one_mul,← eT]; omega) (.at_ 8 _ _ rfl (Qw (by rw[Nat.one_mul,← eT]))),Q6 (v:=.int .i64 (IntKind.i64.wrap ((T:Int)-(1:Int)))) (.tmp 8 rfl rfl) (.const _) (fun _=>rfl) (.at_ 9 _ _ rfl (fun w v h=>Qw (by omega) w v (pI_wrap (by omega) w v h))),Qs (.tmp 5 rfl rfl) (.tmp 9 rfl rfl) Xz (by omega) (by omega) (by kernel_rfl) (.here 10 rfl),Qgq (sz:=3) (q:=e) (ag:=true) (f:=Yl t (fun i=>Qr (mD A A.length i)) Q4) 1 rfl rfl rfl (by kernel_rfl) rfl (.tmp 0 rfl rfl) (.tmp 10 rfl rfl) (show 0+((e:Int)).toNat*3=e*3 by omega) (by omega) Yc rfl (.at_ 11 _ _ rfl (filP_lt (by omega))),Za 0 rfl rfl rfl rfl 0 rfl (by kernel_rfl) (by kernel_rfl) Yc (.tmp 11 rfl rfl) (Xt _),trivial⟩ (.s .o (.k .z)) (.d8 (.dddd .z)) fun a w hI=>?_
  refine wp_ret ?_
  exact Zu hI rfl (ResOk.imp (.cell 0 rfl rfl rfl rfl Yc rfl) (fun w v h=>by rw[ee,eT,Qd1 h4]at h; exact h))
end Wx
