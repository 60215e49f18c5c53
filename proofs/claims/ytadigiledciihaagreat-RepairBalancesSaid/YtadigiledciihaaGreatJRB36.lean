import Derived.Test.YtadigiledciihaaGreatJRB35
namespace Wx
set_option maxRecDepth 100000
set_option maxHeartbeats 1000000
open Go Go.RowKit Go.Proofs
theorem gZ (w:World) (v:Value) (q:Rat) (h:cG w v q):Calls Tryz.prog 52 #[v] w (cP w (.bool (decide (q=0)))):=by
 obtain⟨vn,vd,rfl,h1,h2⟩:=h
 obtain⟨A1,c1,rfl,_⟩:=id h1
 obtain⟨A2,c2,rfl,_⟩:=id h2
 have hz:(((ae ah q.num.natAbs).length:Int)==0)=decide (q=0):=by
  by_cases hq:q=0
  ·rw[hq,decide_eq_true rfl]; rfl
  ·rw[decide_eq_false hq,beq_eq_false_iff_ne]
   have:=(aq (n:=q.num.natAbs) aj).2 (by have:=mt (gO q).1 hq; omega)
   omega
 generalize (ae ah q.num.natAbs).length=L1 at *
 go_enter Tryz.func52,Tryz.ntmps52
 go_wp2
 go_ret
 exact⟨rfl,Below.alloc (Below.refl _ _) (Nat.le_refl _) _⟩
theorem jh (w:World) (z:Int) (h1:-9223372036854775808<=z) (h2:z<=9223372036854775807):Calls Tryz.prog 68 #[.int .i64 z] w (dS .u32 ah w z.natAbs):=by
 have Ic:Bx (z.natAbs<b64):=bx (by unfold b64; omega)
 by_cases hz:z<0
 ·have e1:IntKind.u64.wrap (-IntKind.u64.wrap z)=((z.natAbs:Nat):Int):=by
   simp[IntKind.wrap,IntKind.bits,IntKind.signed]; omega
  have E1:=bx e1
  clear e1
  go_enter Tryz.func68,Tryz.ntmps68
  go_wp2_with fail
  rw[E1.out]
  refine(eP w _ Ic.out).mono ?_
  rintro e w3 ⟨vr,rfl,hr3,hb3⟩
  go_wp2
  go_ret
  exact⟨_,rfl,hr3,hb3⟩
 ·have e1:z=((z.natAbs:Nat):Int):=by omega
  have E1:=bx e1
  clear e1
  go_enter Tryz.func68,Tryz.ntmps68
  go_wp2_with fail
  have hc:=eP w _ Ic.out
  rw[<-E1.out]at hc
  refine hc.mono ?_
  rintro e w3 ⟨vr,rfl,hr3,hb3⟩
  go_wp2
  go_ret
  exact⟨_,rfl,hr3,hb3⟩
theorem FP (z:Int):cI (decide (z<0)) z.natAbs 1=(z:Rat):=by
 unfold cI
 rw[tJ,Rat.mkRat_one]
theorem sR (w:World) (z:Int) (h1:-9223372036854775808<=z) (h2:z<=9223372036854775807):Calls Tryz.prog 34 #[.int .i64 z] w (jS w (z:Rat)):=by
 have H:=bx (And.intro h1 h2)
 have hB:Bx (Bd 64 z.natAbs):=bx (by unfold Bd; omega)
 generalize hq:(z:Rat)=q
 have HQ:=bx hq
 clear h1 h2 hq
 go_enter Tryz.func34,Tryz.ntmps34
 go_wp2_with fail
 obtain⟨w1,e1,oR,b1,s1⟩:=en w [.bool false,.slice none 0 0,.slice none 0 0] 61
 rw[e1]
 clear e1
 have B:=b1
 clear b1
 refine Calls.mono (jh _ z H.out.1 H.out.2) ?_
 rintro e w2 ⟨v1,rfl,h1,b2⟩
 replace oR:=oR.gone b2
 replace B:=B.trans (b2.mono B.size)
 clear b2
 go_wp2_with fail
 refine Calls.mono (eP _ 1 (by unfold b64; omega)) ?_
 rintro e w3 ⟨v2,rfl,h2,b3⟩
 replace oR:=oR.gone b3
 replace h1:=h1.below b3
 replace B:=B.trans (b3.mono B.size)
 clear b3
 go_wp2_with fail
 have hc:=lG _ (decide (z<0)) _ _ z.natAbs 1 h1 h2 (by omega) hB.out (by unfold Bd; omega) (by omega)
 rw[FP,HQ.out]at hc
 clear h1 h2
 refine Calls.mono (hc) ?_
 rintro e w4 ⟨vr,rfl,hr,b4⟩
 replace oR:=oR.gone b4
 replace B:=B.trans (b4.mono B.size)
 clear b4
 clear hc
 obtain⟨Nz,NA,rfl,Dq,hrb⟩:=id hr
 obtain⟨rA,rU,rfl,_⟩:=id Dq
 obtain⟨rB,rV,rfl,_⟩:=id hrb
 have k1:=oR.cell (i:=0) rfl
 have k2:=oR.fz 0
 have k3:=oR.cell (i:=1) rfl
 have k4:=oR.fz 1
 have k5:=oR.cell (i:=2) rfl
 have k6:=oR.fz 2
 go_wp2
 obtain⟨wf,HW,ho,_,hN,Av,_⟩:=oR.put fh [.bool (decide (q.num<0)),.slice rA (ae ah q.num.natAbs).length rU,.slice rB (ae ah q.den).length rV] rfl cZ
 simp only[cF,Nat.reduceAdd]at HW
 (try rw[HW])
 (try simp only[Exit.inBlock,Exit.then])
 have f0:=ho.cell (i:=0) rfl
 have f1:=ho.cell (i:=1) rfl
 have f2:=ho.cell (i:=2) rfl
 refine bodyPost_ret (by simp[results,Tryz.results34,go_sem,f0,f1,f2]; try rfl) rfl ?_
 have HB:=Av _ (by omega) B
 exact⟨_,rfl,hr.into hN,HB⟩
def BN (w:World) (q:Rat) (err:Int) (e:Ending) (w':World):Prop:=∃v,e=.returned (.tuple #[v,.int .i64 err])/\cG w' v q/\Below w.heap.size w w'
theorem Ge (w:World) (n d:Int) (h1:-9223372036854775808<=n) (h2:n<=9223372036854775807) (h3:-9223372036854775808<=d) (h4:d<=9223372036854775807) (hd:d≠0):
  Calls Tryz.prog 82 #[.int .i64 n,.int .i64 d] w (BN w (sQ n d) 0):=by
 have H:=bx (And.intro (And.intro h1 h2) (And.intro h3 h4))
 have HD:=bx hd
 have Ey:(d==0)=false:=beq_eq_false_iff_ne.2 hd
 have B1:Bx (Bd 64 n.natAbs):=bx (by unfold Bd; omega)
 have B2:Bx (Bd 64 d.natAbs):=bx (by unfold Bd; omega)
 clear h1 h2 h3 h4 hd
 go_enter Tryz.func82,Tryz.ntmps82
 go_wp2_with fail
 obtain⟨w1,e1,oR,b1,s1⟩:=en w [.bool false,.slice none 0 0,.slice none 0 0] 61
 rw[e1]
 clear e1
 have B:=b1
 clear b1
 refine Calls.mono (jh _ n H.out.1.1 H.out.1.2) ?_
 rintro e w2 ⟨v1,rfl,h1,b2⟩
 replace oR:=oR.gone b2
 replace B:=B.trans (b2.mono B.size)
 clear b2
 go_wp2_with fail
 refine Calls.mono (jh _ d H.out.2.1 H.out.2.2) ?_
 rintro e w3 ⟨v2,rfl,h2,b3⟩
 replace oR:=oR.gone b3
 replace h1:=h1.below b3
 replace B:=B.trans (b3.mono B.size)
 clear b3
 go_wp2_with fail
 refine Calls.mono (lG _ _ _ _ _ _ h1 h2 (by have:=HD.out; omega) B1.out B2.out (by omega)) ?_
 rintro e w4 ⟨vr,rfl,hr,b4⟩
 replace oR:=oR.gone b4
 replace h1:=h1.below b4
 replace h2:=h2.below b4
 replace B:=B.trans (b4.mono B.size)
 clear b4
 clear h1 h2
 change cG _ vr (sQ n d)at hr
 generalize sQ n d=q at *
 obtain⟨Nz,NA,rfl,Dq,hrb⟩:=id hr
 obtain⟨rA,rU,rfl,_⟩:=id Dq
 obtain⟨rB,rV,rfl,_⟩:=id hrb
 have k1:=oR.cell (i:=0) rfl
 have k2:=oR.fz 0
 have k3:=oR.cell (i:=1) rfl
 have k4:=oR.fz 1
 have k5:=oR.cell (i:=2) rfl
 have k6:=oR.fz 2
 go_wp2
 obtain⟨wf,HW,ho,_,hN,Av,_⟩:=oR.put fh [.bool (decide (q.num<0)),.slice rA (ae ah q.num.natAbs).length rU,.slice rB (ae ah q.den).length rV] rfl cZ
 simp only[cF,Nat.reduceAdd]at HW
 (try rw[HW])
 (try simp only[Exit.inBlock,Exit.then])
 have f0:=ho.cell (i:=0) rfl
 have f1:=ho.cell (i:=1) rfl
 have f2:=ho.cell (i:=2) rfl
 refine bodyPost_ret (by simp[results,Tryz.results82,go_sem,f0,f1,f2]; try rfl) rfl ?_
 have HB:=Av _ (by omega) B
 exact⟨_,rfl,hr.into hN,HB⟩
end Wx

namespace Wx
set_option maxRecDepth 100000
set_option maxHeartbeats 1000000
open Go Go.RowKit Go.Proofs
theorem Je (w:World) (n d:Int) (h1:-9223372036854775808<=n) (h2:n<=9223372036854775807) (h4:d<=9223372036854775807):
  Calls Tryz.prog 44 #[.agg #[.int .i64 n,.int .i64 d]] w (jS w (Ji n d)):=by
 have HH:=bx (And.intro h1 (And.intro h2 h4))
 by_cases hd:d<=0
 ·have hq:Ji n d=(n:Rat):=if_pos hd
  rw[hq]
  generalize hg:(n:Rat)=q
  have HG:=bx hg
  clear h1 h2 h4 hq hg
  go_enter Tryz.func44,Tryz.ntmps44
  go_wp2_with fail
  obtain⟨w1,e1,oP,b1,s1⟩:=en w [.int .i64 n,.int .i64 d] 86
  rw[e1]
  clear e1
  have B:=b1
  clear b1
  obtain⟨w2,e2,oR,b2,s2⟩:=en w1 [.bool false,.slice none 0 0,.slice none 0 0] 61
  rw[e2]
  rw[s1]at oR
  clear e2
  replace oP:=oP.gone b2
  replace B:=B.trans (b2.mono B.size)
  clear b2
  have hc:=sR w2 n HH.out.1 HH.out.2.1
  rw[HG.out]at hc
  refine Calls.mono (hc) ?_
  rintro e w3 ⟨vr,rfl,hr,b3⟩
  replace oP:=oP.gone b3
  replace oR:=oR.gone b3
  replace B:=B.trans (b3.mono B.size)
  clear b3
  clear hc
  obtain⟨Nz,NA,rfl,Dq,hrb⟩:=id hr
  obtain⟨rA,rU,rfl,_⟩:=id Dq
  obtain⟨rB,rV,rfl,_⟩:=id hrb
  have k1:=oR.cell (i:=0) rfl
  have k2:=oR.fz 0
  have k3:=oR.cell (i:=1) rfl
  have k4:=oR.fz 1
  have k5:=oR.cell (i:=2) rfl
  have k6:=oR.fz 2
  go_wp2
  obtain⟨wf,HW,ho,_,hN,Av,_⟩:=oR.put fh [.bool (decide (q.num<0)),.slice rA (ae ah q.num.natAbs).length rU,.slice rB (ae ah q.den).length rV] rfl cZ
  simp only[cF,Nat.reduceAdd]at HW
  (try rw[HW])
  (try simp only[Exit.inBlock,Exit.then])
  have f0:=ho.cell (i:=0) rfl
  have f1:=ho.cell (i:=1) rfl
  have f2:=ho.cell (i:=2) rfl
  refine bodyPost_ret (by simp[results,Tryz.results44,go_sem,f0,f1,f2]; try rfl) rfl ?_
  have HB:=Av _ (by omega) B
  exact⟨_,rfl,hr.into hN,HB⟩
 ·have hq:Ji n d=sQ n d:=if_neg hd
  rw[hq]
  generalize hg:sQ n d=q
  have HG:=bx hg
  have Ey:d≠0:=by omega
  have HD:=bx (And.intro Ey (show -9223372036854775808<=d by omega))
  clear h1 h2 h4 hq hg Ey
  go_enter Tryz.func44,Tryz.ntmps44
  go_wp2_with fail
  obtain⟨w1,e1,oP,b1,s1⟩:=en w [.int .i64 n,.int .i64 d] 86
  rw[e1]
  clear e1
  have B:=b1
  clear b1
  obtain⟨w2,e2,oR,b2,s2⟩:=en w1 [.bool false,.slice none 0 0,.slice none 0 0] 61
  rw[e2]
  rw[s1]at oR
  clear e2
  replace oP:=oP.gone b2
  replace B:=B.trans (b2.mono B.size)
  clear b2
  have hc:=Ge w2 n d HH.out.1 HH.out.2.1 HD.out.2 HH.out.2.2 HD.out.1
  rw[HG.out]at hc
  refine Calls.mono (hc) ?_
  rintro e w3 ⟨vr,rfl,hr,b3⟩
  replace oP:=oP.gone b3
  replace oR:=oR.gone b3
  replace B:=B.trans (b3.mono B.size)
  clear b3
  clear hc
  obtain⟨Nz,NA,rfl,Dq,hrb⟩:=id hr
  obtain⟨rA,rU,rfl,_⟩:=id Dq
  obtain⟨rB,rV,rfl,_⟩:=id hrb
  obtain⟨w4,e4,oV,b4,s4⟩:=en w3 [.bool (decide (q.num<0)),.slice rA (ae ah q.num.natAbs).length rU,.slice rB (ae ah q.den).length rV] 61
  replace oP:=oP.gone b4
  replace oR:=oR.gone b4
  replace hr:=hr.below b4
  replace B:=B.trans (b4.mono B.size)
  clear b4 s4
  have k1:=oV.cell (i:=0) rfl
  have k2:=oV.cell (i:=1) rfl
  have k3:=oV.cell (i:=2) rfl
  have k4:=oR.cell (i:=0) rfl
  have k5:=oR.fz 0
  have k6:=oR.cell (i:=1) rfl
  have k7:=oR.fz 1
  have k8:=oR.cell (i:=2) rfl
  have k9:=oR.fz 2
  go_wp2
  obtain⟨wf,HW,ho,_,hN,Av,_⟩:=oR.put fh [.bool (decide (q.num<0)),.slice rA (ae ah q.num.natAbs).length rU,.slice rB (ae ah q.den).length rV] rfl cZ
  simp only[cF,Nat.reduceAdd]at HW
  (try rw[HW])
  (try simp only[Exit.inBlock,Exit.then])
  have f0:=ho.cell (i:=0) rfl
  have f1:=ho.cell (i:=1) rfl
  have f2:=ho.cell (i:=2) rfl
  refine bodyPost_ret (by simp[results,Tryz.results44,go_sem,f0,f1,f2]; try rfl) rfl ?_
  have HB:=Av _ (by omega) B
  exact⟨_,rfl,hr.into hN,HB⟩
end Wx

namespace Wx
open Go Go.RowKit Go.Proofs
set_option linter.unusedVariables false
attribute [local irreducible] OpOk
end Wx

namespace Wx
open Go Go.RowKit Go.Proofs
set_option linter.unusedVariables false
attribute [local irreducible] OpOk
end Wx

namespace Wx
open Go Go.RowKit Go.Proofs
set_option linter.unusedVariables false
attribute [local irreducible] OpOk
def Pw (x:Int×Int):Pred:=Gv x.1 x.2
def z2:Int×Int:=(0,0)
abbrev Qi (D:List (Int×Int)):Pred:=pG 2 Pw D
def Fh (x:Int×Int):Prop :=-9223372036854775808<=x.1/\x.1<=9223372036854775807/\x.2<=9223372036854775807
def LO (x:Int×Int):Rat:=Ji x.1 x.2
theorem jZ (x:Int×Int):Fits 2 true (Pw x):=Dg _ _
theorem J9 {α:Type} {sz:Nat} {F:α->Pred} (hF:∀x,Fits sz true (F x)):∀l:List α,nJ (l.map (Hy sz F))
 |[]=>trivial
 |_::l=>⟨hF _,J9 hF l⟩
theorem KW {α:Type} {sz:Nat} {F:α->Pred}:∀l:List α,jF (l.map (Hy sz F))=l.length*sz
 |[]=>by rw[List.length_nil,Nat.zero_mul]; rfl
 |_::l=>by
  rw[List.length_cons,Nat.succ_mul,Nat.add_comm,<-KW l]
  rfl
variable {x:Int×Int}
theorem Lg (h:Fh x):∀w v1,Pw x w v1->Calls Tryz.prog 43 #[v1] w (dK (pR 64 (LO x)) w):=λw v1 h1=>by
 rw[zm h1]
 exact(MG w x.1 x.2 h.1 h.2.1 h.2.2).mono λe w' hr=>dK.map (qA (rJ h.1 h.2.1 h.2.2)) (show dK (bg (LO x)) w e w' from hr)
theorem My (h:Fh x):∀w v1,Pw x w v1->Calls Tryz.prog 44 #[v1] w (dK (pN 64 (LO x)) w):=λw v1 h1=>by
 rw[zm h1]
 exact(Je w x.1 x.2 h.1 h.2.1 h.2.2).mono λe w' hr=>dK.map (qA (rJ h.1 h.2.1 h.2.2)) (show dK (bW (LO x)) w e w' from hr)
section
variable {α:Type} {z:α} {R:Nat->α} {i k:Nat}
end
section
variable {P:Program} {ops:Array Oper} {ms:List Nat} {c:dg} {V:List Vr} {A:List Al} {G:List aX} {i:Nat}{d:Nat} {x y:Operand} {ty:TypeId} {pos:String} {aI:Array Edge}
theorem Tw {T:TypeId} {p:Pred} (E:TypeId) (sz:Nat) (zl:List Zl) (hf:Fits sz true p) (ht:mU P T E sz:=by exact⟨by kernel_rfl,λ_=>by kernel_rfl⟩) (AH:∀w,(zeroValue E).run P w=.ok (.agg (zl.flatMap Zl.cs).toArray) w:=by exactλ_=>by kernel_rfl) (h1:Has ms G i x p:=by exact hs) (wQ:(zl.flatMap Zl.cs).length=sz:=by kernel_rfl) (hsz:0<sz/\sz<=16777216:=by decide) (hp:Post G i (bk sz true 1 λ_=>p):=by exact pt rfl):
  OpOk P ops ms c V A G i ⟨some d,.buildSlice T 1 #[(0,x)],ty,pos,aI,none⟩:=
 lO (agg:=true) ht AH rfl wQ hsz h1 hf hp
end
end Wx

namespace Wx
open Go Go.RowKit Go.Proofs Go.ChangeShapes Go.WideShapes Go.ChangeAt
set_option linter.unusedVariables false
section
variable {H:Type} {enc:TypeId×Value->H} {w:World}
theorem wU:zX enc Tryz.prog w 86 true Fh Pw:=
 zX.Pg (Be (N:=2) Tryz.underlying86 (by kernel_rfl) (by kernel_rfl) (iD (n:=1) (CC Tryz.underlying2) (by kernel_rfl) (by omega) (iD (n:=1) (CC Tryz.underlying2) (by kernel_rfl) (by omega) vv))) (λa=>(a.1,a.2.1))
  (λa h=>⟨(wf_i64 h.1).1,(wf_i64 h.1).2,(wf_i64 h.2.1).2⟩) (λa w v h=>h)
theorem LM:Fh z2:=by unfold Fh z2; decide
theorem MM:zX enc Tryz.prog w 87 true (λD=>D.length=3/\∀q,Fh (D.getD q z2)) Qi:=
 zX.Pg (D2 (N:=6) (n:=2) Tryz.underlying87 (by kernel_rfl) (by kernel_rfl) (by kernel_rfl) (iD (n:=2) wU (by kernel_rfl) (by omega) (iD (n:=2) wU (by kernel_rfl) (by omega) (iD (n:=2) wU (by kernel_rfl) (by omega) vv)))) (λa=>[a.1,a.2.1,a.2.2.1])
  (λa h=>⟨rfl,λq=>match q with
   |0=>h.1
   |1=>h.2.1
   |2=>h.2.2.1
   |_+3=>LM⟩)
  (λa w v h=>h)
theorem Mx {L:List (List (Int×Int))} (h:∀a∈L,a.length=3/\∀q,Fh (a.getD q z2)):∀k,k<L.length->(L.getD k []).length=3/\∀q,Fh ((L.getD k []).getD q z2):=λk hk=>by
 rw[show L.getD k []=L[k] by rw[List.getD_eq_getElem?_getD,List.getElem?_eq_getElem hk]; rfl]
 exact h _ (List.getElem_mem hk)
end
end Wx
