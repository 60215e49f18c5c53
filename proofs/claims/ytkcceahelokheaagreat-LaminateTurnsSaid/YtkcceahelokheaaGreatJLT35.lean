import Derived.Test.YtkcceahelokheaaGreatJLT33
namespace Wx
open Go Go.RowKit
set_option linter.unusedVariables false
section
variable {P:Program} {ops:Array Oper} {ms:List Nat} {c:fT} {V:List Vr} {A:List Al} {G:List bz} {i:Nat}{d:Nat} {x y z:Operand} {ty:TypeId} {pos:String} {aft:Array Edge}{j1 j2:Nat} {l1 l2:List Rat}
theorem Wh {F:Rat->Pred} {J n1 n2:Nat} (h1:j1<=J) (h2:j2<=J) (e1:n1=l1.length*3) (e2:n2=l2.length*3):∀w v,pS [⟨true,n1,pV F j1 l1⟩,⟨true,n2,pV F j2 l2⟩] w v->pV F J (l1++l2) w v:=by
 rintro w v ⟨cs,rfl,k1,k2,k3,k4,k5⟩
 have k1:n1<=cs.length:=k1
 have k3:n2<=(cs.drop n1).length:=k3
 have k5:(cs.drop n1).drop n2=[]:=k5
 obtain⟨ds1,ea,ha⟩:=(show pV F j1 l1 w (aj true (cs.take n1))from k2)
 obtain⟨ds2,eb,hb⟩:=(show pV F j2 l2 w (aj true ((cs.drop n1).take n2))from k4)
 have ea:=bG (show aj true _=aj true ds1 from ea)
 have eb:=bG (show aj true _=aj true ds2 from eb)
 subst ea eb
 have hb':(cs.drop n1).take n2=cs.drop n1:=List.take_of_length_le (by have:=List.drop_eq_nil_iff.1 k5; omega)
 rw[hb']at hb
 have:=tD (KG h1 ha) (KG h2 hb)
 rw[List.take_append_drop]at this
 exact⟨cs,rfl,this⟩
variable {T:TypeId}
theorem bdV {x0 x1:Operand} (J n1 n2:Nat) (h1:Has ms G i x0 (pV au j1 l1):=by exact hs) (h2:Has ms G i x1 (pV au j2 l2):=by exact hs) (fA:j1<=J:=by omega) (hj2:j2<=J:=by omega) (e1:l1.length=n1:=by first|rfl|omega) (e2:l2.length=n2:=by first|rfl|omega) (hp:Post G i (pV au J (l1++l2)):=by exact pt rfl)
  (ht:∀parts,P.built T parts=Instr.fill (λi=>(ZN 0 [.m (List.replicate n1 .r),.m (List.replicate n2 .r)]).toArray[i]?) ([Zf.m (List.replicate n1 .r),.m (List.replicate n2 .r)].flatMap Zf.cs).toArray parts:=by(intro parts; kernel_rfl)) (Ig:plG ([Zf.m (List.replicate n1 .r),.m (List.replicate n2 .r)].map Zf.fd) (λi=>(ZN 0 [.m (List.replicate n1 .r),.m (List.replicate n2 .r)]).toArray[i]?)=true:=by kernel_rfl)
  (Ei:(Zf.m (List.replicate n1 .r)).fd.n=n1*3:=by kernel_rfl) (Vt:(Zf.m (List.replicate n2 .r)).fd.n=n2*3:=by kernel_rfl) (ha1:(Zf.m (List.replicate n1 .r)).fd.agg=true:=by kernel_rfl) (ha2:(Zf.m (List.replicate n2 .r)).fd.agg=true:=by kernel_rfl):
  OpOk P ops ms c V A G i ⟨some d,.build T #[(0,x0),(1,x1)],ty,pos,aft,none⟩:=by
 refine rS (ps:=[(0,pV au j1 l1),(1,pV au j2 l2)]) (gs:=[⟨true,n1*3,pV au j1 l1⟩,⟨true,n2*3,pV au j2 l2⟩]) ht (DL Ig) (λw=>Lh w _) (show dy ms G i _ [(0,x0),(1,x1)] _ from⟨⟨rfl,h1,_,rfl,by rw[Ei,ha1]; exact eF (λ_=>cE) (by rw[e1])⟩,⟨rfl,h2,_,rfl,by rw[Vt,ha2]; exact eF (λ_=>cE) (by rw[e2])⟩,trivial⟩) ?_ (hp.down (Wh fA hj2 (by rw[e1]) (by rw[e2])))
 show[({ (Zf.m (List.replicate n1 .r)).fd with p:=pV au j1 l1 }:Fd),{ (Zf.m (List.replicate n2 .r)).fd with p:=pV au j2 l2 }]=_
 rw[<-Ei,<-Vt,<-ha1]
 congr 1
variable {j:Nat}
theorem bs1 {l:List Rat} (E:TypeId) (n:Nat) (ht:mV P T E (n*3):=by exact⟨by kernel_rfl,λ_=>by kernel_rfl⟩) (Dq:∀w,(zeroValue E).run P w=.ok (.agg ((List.replicate n Zl.r).flatMap Zl.cs).toArray) w:=by exactλ_=>by kernel_rfl) (h1:Has ms G i x (pV au j l):=by exact hs) (hl:l.length=n:=by first|rfl|omega) (we:((List.replicate n Zl.r).flatMap Zl.cs).length=n*3:=by kernel_rfl) (hsz:0<n*3/\n*3<=16777216:=by decide) (hp:Post G i (aA (n*3) true 1 λ_=>pV au j l):=by exact pt rfl):
  OpOk P ops ms c V A G i ⟨some d,.buildSlice T 1 #[(0,x)],ty,pos,aft,none⟩:=
 gJ (agg:=true) ht Dq rfl we hsz h1 (eF (λ_=>cE) (by rw[hl])) hp
theorem bsR {q:Rat} (E:TypeId) (ht:mV P T E 3:=by exact⟨by kernel_rfl,λ_=>by kernel_rfl⟩) (Dq:∀w,(zeroValue E).run P w=.ok (.agg Zl.r.cs.toArray) w:=by exactλ_=>by kernel_rfl) (h1:Has ms G i x (pR j q):=by exact hs) (hp:Post G i (aA 3 true 1 λ_=>pR j q):=by exact pt rfl):
  OpOk P ops ms c V A G i ⟨some d,.buildSlice T 1 #[(0,x)],ty,pos,aft,none⟩:=
 gJ (agg:=true) ht Dq rfl rfl ⟨by decide,by decide⟩ h1 cE hp
theorem Z9 (hp:Post G i (pR 1 0):=by exact pt rfl) (hr:P.built T []=some Zl.r.cs.toArray:=by kernel_rfl):OpOk P ops ms c V A G i ⟨some d,.build T #[],ty,pos,aft,none⟩:=
 KC rfl rfl rfl rfl hp λρ w=>⟨.agg Zl.r.cs.toArray,by
  show(do pure (Next.value (<-Instr.build T ((#[]:Array (Nat×Operand)).map λ(q:Nat×Operand)=>(q.1,ρ q.2))))).run P w=_
  rw[show(#[]:Array (Nat×Operand)).map (λ(q:Nat×Operand)=>(q.1,ρ q.2))=#[] by simp,Sem.run_bind,run_build w T _ _ hr]
  rfl,λw=>⟨XC,ew w⟩⟩
variable {f:FuncId} {ts:Array TypeId} {p p1 q1:Pred} {φ ψ:Prop}
theorem OG (hψ:ψ) (sk:φ->∀w v1,p1 w v1->Calls P f #[v1] w (ie p w)) (h1:Has ms G i x q1:=by exact hg) (c1:∀w v,q1 w v->p1 w v:=by exact uk) (hp:Post G i p:=by exact pg (by assumption) rfl) (hφ:φ:=by first|omega|trivial) (hn:aK p:=by exact Q8) (hf:aR P f:=by exactλ_ _=>by kernel_rfl):
  OpOk P ops ms c V A G i ⟨some d,.call ⟨.value (.func f),#[x],ts⟩,ty,pos,aft,none⟩:=(λ_:ψ=>q7 hf hn (h1.imp c1) hp (sk hφ)) hψ
theorem LL {p2 q2:Pred} (hψ:ψ) (sk:φ->∀w v1 v2,p1 w v1->p2 w v2->Calls P f #[v1,v2] w (ie p w)) (h1:Has ms G i x q1:=by exact hg) (c1:∀w v,q1 w v->p1 w v:=by exact uk) (h2:Has ms G i y q2:=by exact hg) (c2:∀w v,q2 w v->p2 w v:=by exact uk) (hp:Post G i p:=by exact pg (by assumption) rfl) (hφ:φ:=by first|omega|trivial) (hn:aK p:=by exact Q8) (hf:aR P f:=by exactλ_ _=>by kernel_rfl):
  OpOk P ops ms c V A G i ⟨some d,.call ⟨.value (.func f),#[x,y],ts⟩,ty,pos,aft,none⟩:=(λ_:ψ=>iG hf hn (h1.imp c1) (h2.imp c2) hp (sk hφ)) hψ
theorem ads {k:Nat} {x:Rat} (h:0=x) (hk:1<=k):∀w v,pS ([Zl.r].map Zl.fd) w v->pR k x w v:=by
 subst h
 rintro w v ⟨cs,rfl,h1,h2,h3⟩
 have h2:pR 1 0 w (aj true (cs.take 3)):=h2
 have h3:cs.drop 3=[]:=h3
 rw[List.take_of_length_le (List.drop_eq_nil_iff.1 h3)]at h2
 exact nF hk w _ h2
end
end Wx

namespace Wx
open Go Go.RowKit
variable {V:List Vr} {N:Nat} {B:Nat->Prop} {J:World->Prop}
theorem vJ (h:mU N V=some (jV N B J):=by exact rfl):∃r:Rel,mU (jV N B J).id V=some ⟨(jV N B J).id,(jV N B J).slot,none,none,(jV N B J).kd,(jV N B J).T,(jV N B J).n,(jV N B J).agg,r,[]⟩/\((jV N B J).born=none/\(jV N B J).dead=none/\(jV N B J).st=[])/\∀F w v,r F w v->(jV N B J).c0 F w v:=⟨_,h,⟨rfl,rfl,rfl⟩,λ_ _ _ h=>h⟩
variable {P:Program} {fn:Func} {f:FuncId} {sz:Nat} {ag:Bool} {q:Pred} {u:Value} {M:Nat->Nat->Prop} {R:Ending->World->Prop} {w:World}
theorem stJ {C:Code} {l:Nat} (hf:P.funcs[f]?=some fn) (hb:fn.body=some C) (hN:fn.ntmps=N)
  (hM:cL M w) (H7:∀k,B k->∀o,¬M k o) (hno:ou B w) (hJ:aO M J w) (hc:aO (λk o=>M k o\/B k) (λw=>cZ sz ag q w u) w)
  (h:∀a,Inv ⟨N,w,M,B⟩ [jV N B J] [] [Uz 0 (bg (.func (.yield l) #[] #[])),Uz 1 (cZ sz ag q)] none_ a w->C.ww none [] P (bodyPost P fn R) a w) (hlen:decide (2<=N)=true:=by kernel_rfl):Calls P f (#[.func (.yield l) #[] #[]]++#[u]) w R:=
 CV (vs:=[.func (.yield l) #[] #[],u]) hf hb hN hlen hM H7 hno hJ (show cF (λk o=>M k o\/B k) w [.func (.yield l) #[] #[],u] [Uz 0 (bg (.func (.yield l) #[] #[])),Uz 1 (cZ sz ag q)]from⟨⟨rfl,_,rfl,λ_ _=>rfl⟩,⟨rfl,_,rfl,hc⟩,trivial⟩) h
theorem Yg {G:List bz} {a:Act} {n0:Nat} {w0:World} {B0:Nat->Prop} (hI:Inv ⟨N,w0,M,B0⟩ V [] G none_ a w) (hr:fn.results=#[]) (hJ:V[n0]?=some (jV N B J))
  (hR:dN B0 w0 w->(∀k,B k->B0 k\/w0.heap.size<=k)->ou B w->aO M J w->R (.returned (.tuple #[])) w):bodyPost P fn R .normal a w:=Yf hI hr hJ hR
theorem WG {j:Nat} (x y:Rat):∀w v,pS [⟨true,3,pR j x⟩,⟨true,3,pR j y⟩] w v->pV au j [x,y] w v:=λ_ _ h=>h
def Oc (sz:Nat) (ag:Bool) (q:Pred) (lb:Array Value) (w:World):Prop:=∃u,lb=#[u]/\cZ sz ag q w u
theorem Od (h:aO M (Oc sz ag q #[u]) w):aO M (λw=>cZ sz ag q w u) w:=h.imp λ_ ⟨u',e,h⟩=>by
 have e:u=u':=by simpa using e
 rw[e]; exact h
theorem Rl {n:Nat} {p r:Nat->Pred} (hf:aR P f) (hs:∀u,NR P f #[u] n p r (Oc sz ag q #[u])):∀w v,tE f sz ag q w v->P2 P n p r (Oc sz ag q) w v:=λ_ _ ⟨u,e,h⟩=>⟨f,#[u],e,hf,hs u,u,rfl,h⟩
end Wx

namespace Wx
set_option maxRecDepth 100000
set_option maxHeartbeats 1000000
open Go Go.RowKit Go.Proofs
set_option linter.unusedVariables false
attribute [local irreducible] OpOk
theorem O6 (S:List bK):∀i,ia S i=((2*cU S i-cU S S.length:Int):Rat)/lF
 |0=>by
  show((-(cU S S.length):Int):Rat)/lF=((2*0-cU S S.length:Int):Rat)/lF
  rw[show(2*0-cU S S.length:Int) = -(cU S S.length) by omega]
 |i+1=>by
  show ia S i+(((ai S i).t:Int):Rat)=((2*(cU S i+(ai S i).t)-cU S S.length:Int):Rat)/lF
  rw[O6 S i,show(2*(cU S i+(ai S i).t)-cU S S.length:Int)=(2*cU S i-cU S S.length)+2*(ai S i).t by omega]
  rw[Rat.intCast_add,Rat.intCast_mul]
  show _=(_+lF*_)/lF
  have h2:lF≠0:=by decide
  grind
variable {S:List bK}
theorem qP (h:GH S) {i:Nat} (hi:i<=S.length):aZ 28 (ia S i):=by
 rw[O6]
 have h1:=h.sum i
 have h2:=h.sum S.length
 have h3:=h.len
 have hb:aZ 26 ((2*cU S i-cU S S.length:Int):Rat):=⟨by unfold Bd; rw[Rat.num_intCast]; omega,by unfold Bd; rw[Rat.den_intCast]; decide⟩
 exact hb.div (k:=2) (y:=lF) ⟨by unfold Bd; decide,by unfold Bd; decide⟩ (by decide)
theorem ZK {j k:Nat} {q:Rat} (h:aZ k q):∀w v,pR j q w v->pR k q w v:=λ_ _ h1=>⟨h,h1.2⟩
theorem Iu (h:GH S) (u:Value):NR Tryz.prog 159 #[u] S.length (λk=>pI (k:Int)) (λk=>pV au 28 [ia S k,ia S (k+1)]) (Oc 1 false (aA 4 true S.length λi=>cP (ai S i)) #[u]):=by
 intro σ l M Bs J X s0 w0 hM hB hN hJ hc hr
 refine stJ (N:=34) Tryz.func159 rfl rfl hM hB hN hJ (Od hc) λa hI=>?_
 have k1:=h.sum S.length
 have k2:=h.len
 refine bf hI 8 [⟨3,3,some 6,none,.ptr,40,3,true,pv _,[(7,pv _)]⟩] [] [Uc 0 7 _,Uc 1 8 _,Uc 2 9 _,Uc 3 10 _,Uc 4 11 _,Uc 5 12 _] (.k .z) (.kk .z) ⟨ld,mS Fo,ng,mS gT,mS gT,pq mD,fB [.r],dM,trivial⟩ (.k (.s .o .z)) (.dI (.bh .z)) λa w hI=>?_
 refine bf hI 3 [] [] [Uc 0 13 _,Uc 1 14 _,Uc 2 15 _] (.k (.k .z)) (.kk .z) ⟨ld,ln,mv,trivial⟩ (.k (.k .z)) (.oM (.k .z)) λa w hI=>?_
 refine aC ?_
 refine tN [] [Uz 0 _,Uz 13 _,Uz 14 _] (λ(i:Nat×σ)=>[jV 34 (Bs i.2) (J i.1 i.2),Vz 3 3 40 3 true (pR 28 (ia S i.1))]) (λ(i:Nat×σ)=>[Uz 15 (pI (i.1:Int))]) (λ(i:Nat×σ)=>i.1<=S.length) (λ(i:Nat×σ)=>S.length-i.1) ((0,s0)) (Nat.zero_le _) hI ⟨vJ,vC (ZK (qP h (Nat.zero_le _))),trivial⟩ ⟨gi,gi,gi,gc,trivial⟩ ?_
 intro i a w hi hI
 refine bf hI 1 [] [] [Uc 0 16 _] (.k (.k .z)) (.ah .z) ⟨bn,trivial⟩ (.k (.k .z)) (.ah (.k .z)) λa w hI=>?_
 refine az ?_
 refine mj hI (λt1=>?_) (λt1=>?_)
 ·
  refine aJ ?_
  refine ae ?_
  refine az ?_
  refine aC ?_
  refine bf hI 6 [⟨5,5,some 3,none,.ptr,68,4,true,pv _,[(5,pv _)]⟩] [] [Uc 0 17 _,Uc 1 18 _,Uc 2 19 _,Uc 4 4 _] (.k (.k .z)) (.ah (.k .z)) ⟨mv,ix,ld,fB [.i,.i,.i,.i],mv,dM,trivial⟩ (.k (.k (.s .o .z))) (.ah (.bh (.k .z))) λa w hI=>?_
  have hb:aZ 28 (ia S i.1+(((ai S i.1).t:Int):Rat)):=qP h (i:=i.1+1) (by omega)
  have k3:=h.pos i.1
  refine mR hI [0,0,2,6,15,0,63] [⟨6,6,some 5,none,.ptr,40,3,true,pv _,[(6,pv _)]⟩] [⟨some 1,21,5,3,True⟩] [Uc 0 20 _,Uc 2 22 _,Uc 3 23 _,Uc 4 24 _] (.k (.k (.k .z))) (.ah (.k .z)) ⟨ld,fa,ld,mS gT,fZ (yJ hb),fB [.r],dM,trivial⟩ (.k (.k (.d (.s .o .z)))) (.ah (.dx (.d .z))) λa w hI=>?_
  refine az ?_
  refine QN (n0:=0) (nv:=[]) (A1:=[]) (ne:=[Uc 0 25 _,Uc 1 26 _,Uc 2 27 _,Uc 3 28 _,Uc 4 29 _]) Bs (λb s'=>if b then J (i.1+1) s' else X s') 5 hI (.k (.k (.k .z))) (.ah (.k .z)) ⟨mv,mv,ld,ld,GR 3 [.o .r,.o .r] [(0,_),(1,_)],trivial⟩ (.k (.k (.k .z))) (.ah (.Rp (.dk .z))) rfl rfl rfl rfl rfl (λM' w' u0 u1 k1 k2 k3 k4 k5 k6=>hr i.1 i.2 M' w' u0 u1 (by omega) k1 k2 k3 k4 k5 (k6.imp λw h=>WG (ia S i.1) (ia S (i.1+1)) w u1 h)) (λb s' a w hI=>?_)
  dsimp only[List.set]at hI
  refine Cy hI (λt2=>?_) (λt2=>?_)
  ·
   obtain rfl:b=false:=by simpa using t2
   refine aL ?_
   refine aB ?_
   refine bj ?_
   refine aB ?_
   refine aB ?_
   refine bj ?_
   exact Yf (n0:=0) hI rfl rfl λh1 h2 h3 h4=>⟨_,s',rfl,h1,h2,h3,.inr h4⟩
  ·
   obtain rfl:b=true:=by simpa using t2
   refine aJ ?_
   refine ae ?_
   refine qq hI 2 [] [] [Uc 0 32 _] (.k (.u none [(1,pv _)] (.k .z))) (.k8 (.k .z)) ⟨ld,dM,trivial⟩ (.k (.s .o (.d .z))) (.xI (.dI (.dd .z))) λa w hI=>?_
   refine aG ?_
   refine ae ?_
   refine qq hI 2 [] [] [Uc 0 33 _,Uc 1 15 _] (.k (.k .z)) (.bS (.t 1 .z)) ⟨bn,mv,trivial⟩ (.k (.k .z)) (.cA (.dk .z)) λa w hI=>?_
   refine ae ?_
   exact qR ((i.1+1,s')) (by(show i.1+1<=S.length); omega) hI ⟨vJ,vC ((λ_ _ h=>h)),trivial⟩ ⟨gc,gc,gc,gc,trivial⟩ (by(show S.length-(i.1+1)<S.length-i.1); omega)
 ·
  refine bO ?_
  refine ak ?_
  refine ak ?_
  refine aH ?_
  exact Yg (n0:=0) hI rfl rfl λh1 h2 h3 h4=>⟨_,i.2,rfl,h1,h2,h3,.inl (by(have e:i.1=S.length:=by omega); rw[e]at h4; exact h4)⟩
theorem wj (h:GH S):K1 Tryz.prog 107 (aA 4 true S.length λi=>cP (ai S i)) (P2 Tryz.prog S.length (λk=>pI (k:Int)) (λk=>pV au 28 [ia S k,ia S (k+1)]) (Oc 1 false (aA 4 true S.length λi=>cP (ai S i)))):=by
 intro M w0 v0 hM hv0
 refine om (N:=4) Tryz.func107 rfl rfl rfl hM hv0 λa hI=>?_
 refine bM hI 2 [Uc 0 1 _,Uc 1 2 _] (.k .z) ⟨AK 1 false,mv,trivial⟩ (.Ok .z) λa w hI=>?_
 refine bM hI 2 [Uc 0 3 _,Uc 1 2 _] (.k (.t 1 .z)) ⟨mkC,mv,trivial⟩ (.dw .z) λa w hI=>?_
 refine aL ?_
 exact ck hI rfl (iu (hq:=Rl (λ_ _=>by kernel_rfl) λu=>Iu h u))
end Wx

namespace Wx
variable {j:Nat}
theorem aZ.Hr {k:Nat} {x y:Rat} (h:aZ j x) (g:aZ k y) (hj:1<=j+k):aZ (j+k) (x/y):=by
 by_cases hy:y.num=0
 ·have e:y=0:=Rat.num_eq_zero.1 hy
  rw[e,Rat.div_def,Rat.inv_zero,Rat.mul_zero]
  exact Eg.mono hj
 ·exact h.div g hy
theorem CS {z:Int} (hj:1<=j) (h1:-(2^j:Int)<z) (h2:z<(2^j:Int)):aZ j (z:Rat):=by
 have e:((2^j:Nat):Int)=2^j:=by simp
 exact⟨by unfold Bd; rw[Rat.num_intCast]; omega,by unfold Bd; rw[Rat.den_intCast]; exact Nat.one_lt_two_pow (by omega)⟩
section
variable {m v w:List Rat} {j k J K:Nat}
theorem Lo (h:∀q,aZ j (m.getD q 0)):aZ (4*j+1) (vP m):=(aZ.wV (h 0) (((h 3).mul (h 3)).mul (h 1))).mono (by omega)
theorem By (h:∀q,aZ j (m.getD q 0)) (hj:1<=j):∀q,aZ (7*j+1) ((iS m).getD q 0):=by
 have hb:=Lo h
 have h1:=((h 0).mul (h 1)).Hr hb (by omega)
 intro q
 match q with
 |0=>exact(((h 0).mul (h 0)).Hr hb (by omega)).mono (by omega)
 |1=>exact h1.mono (by omega)
 |2=>exact((h 3).mul h1).mono (by omega)
 |3=>exact(h 2).mono (by omega)
 |q+4=>
  show aZ _ ((iS m).getD (q+4) 0)
  rw[List.getD_eq_getElem?_getD,List.getElem?_eq_none (by rw[jT]; omega)]
  exact Eg.mono (by omega)
variable {p q:Int}
theorem oZ (h:-1048576<=p/\p<=1048576 /\ -1048576<=q/\q<=1048576):∀i,aZ 128 ((cR p q).getD i 0):=by
 have m1:=n9 1048576 h.1 h.2.1 h.1 h.2.1
 have m2:=n9 1048576 h.2.2.1 h.2.2.2 h.2.2.1 h.2.2.2
 have m3:=n9 1048576 h.1 h.2.1 h.2.2.1 h.2.2.2
 have c1:(2:Int)^60=1152921504606846976:=by decide
 have b:aZ 60 ((p*p+q*q:Int):Rat):=CS (by omega) (by omega) (by omega)
 have b1:aZ 60 ((p*p:Int):Rat):=CS (by omega) (by omega) (by omega)
 have b2:aZ 60 ((q*q:Int):Rat):=CS (by omega) (by omega) (by omega)
 have b3:aZ 60 ((p*q:Int):Rat):=CS (by omega) (by omega) (by omega)
 intro i
 match i with
 |0=>exact(b1.Hr b (by omega)).mono (by omega)
 |1=>exact(b2.Hr b (by omega)).mono (by omega)
 |2=>exact(b3.Hr b (by omega)).mono (by omega)
 |i+3=>
  show aZ _ ((cR p q).getD (i+3) 0)
  rw[List.getD_eq_getElem?_getD,List.getElem?_eq_none (by rw[Jk]; omega)]
  exact Eg.mono (by omega)
theorem ud {l:List Rat} (hj:1<=j) (h:∀x,x∈l->aZ j x):∀q,aZ j (l.getD q 0):=by
 intro q
 rw[List.getD_eq_getElem?_getD]
 cases e:l[q]? with
 |none=>exact Eg.mono hj
 |some x=>exact h x (List.mem_of_getElem? e)
theorem J7 {s:List Rat} (h:∀q,aZ 128 (s.getD q 0)):∀q,aZ 578 ((nY s).getD q 0):=by
 refine ud (by omega) ?_
 unfold nY Rx
 have c:=h 0
 have s':=h 1
 have m':=h 2
 generalize s.getD 0 0=x at *
 generalize s.getD 1 0=y at *
 generalize s.getD 2 0=z at *
 have t2:aZ 2 lF:=⟨by unfold Bd; decide,by unfold Bd; decide⟩
 have t4:aZ 3 BL:=⟨by unfold Bd; decide,by unfold Bd; decide⟩
 have e1:aZ 578 (x*x):=(c.mul c).mono (by omega)
 have e2:aZ 578 (y*y):=(s'.mul s').mono (by omega)
 have e3:aZ 578 (lF*(z*z)):=(t2.mul (m'.mul m')).mono (by omega)
 have e4:aZ 578 (BL*(z*z)):=(t4.mul (m'.mul m')).mono (by omega)
 have e5:aZ 578 (z*z):=(m'.mul m').mono (by omega)
 have e6:aZ 578 (x*x+y*y):=((c.mul c).qx (s'.mul s')).mono (by omega)
 have e7:aZ 578 (x*z):=(c.mul m').mono (by omega)
 have e8:aZ 578 (y*z):=(s'.mul m').mono (by omega)
 have e9:aZ 578 ((x-y)*z):=((c.wV s').mul m').mono (by omega)
 have e10:aZ 578 (lF*((x-y)*z)):=(t2.mul ((c.wV s').mul m')).mono (by omega)
 have e11:aZ 578 ((x-y)*(x-y)):=((c.wV s').mul (c.wV s')).mono (by omega)
 intro u hu
 simp only[List.mem_cons,List.not_mem_nil,or_false]at hu
 repeat' (first
  |assumption
  |exact aZ.neg (by assumption)
  |(subst hu; first|assumption|exact aZ.neg (by assumption))
  |(rcases hu with hu|hu))
theorem Av {b f:List Rat} (hb:∀q,aZ J (b.getD q 0)) (hf:∀q,aZ K (f.getD q 0)):∀t,aZ (1+4*(J+K+1)) ((kP b f).getD t 0):=by
 intro t
 by_cases ht:t<9
 ·unfold kP
  rw[eM ht]
  exact yO hb hf 4
 ·rw[List.getD_eq_getElem?_getD,List.getElem?_eq_none (by rw[nP]; omega)]
  exact Eg.mono (by omega)
theorem OB (h:∀q,aZ j (m.getD q 0)) (hd:-1048576<=p/\p<=1048576 /\ -1048576<=q/\q<=1048576):∀i,aZ (2*j+300) ((BM m p q).getD i 0):=by
 have s:=oZ hd
 have t2:aZ 2 lF:=⟨by unfold Bd; decide,by unfold Bd; decide⟩
 intro i
 match i with
 |0=>exact(((h 4).mul (s 0)).qx ((h 5).mul (s 1))).mono (by omega)
 |1=>exact(((h 4).mul (s 1)).qx ((h 5).mul (s 0))).mono (by omega)
 |2=>exact((t2.mul ((h 4).wV (h 5))).mul (s 2)).mono (by omega)
 |i+3=>
  show aZ _ ((BM m p q).getD (i+3) 0)
  rw[List.getD_eq_getElem?_getD,List.getElem?_eq_none (by show 3<=i+3; omega)]
  exact Eg.mono (by omega)
theorem D6 (hm:∀q,aZ J (m.getD q 0)) (hv:∀q,aZ K (v.getD q 0)) (i:Nat):∀k,aZ (1+k*(J+K+1)) (Ar m v i k)
 |0=>by rw[Nat.zero_mul]; exact Eg
 |k+1=>((D6 hm hv i k).qx ((hm (3*i+k)).mul (hv k))).mono (by rw[Nat.succ_mul]; omega)
theorem Ks {l u:Rat} (hl:aZ 28 l) (hu:aZ 28 u):∀i,aZ 236 ((tw l u).getD i 0):=by
 have t2:aZ 2 ((2:Int):Rat):=⟨by unfold Bd; decide,by unfold Bd; decide⟩
 have t3:aZ 2 ((3:Int):Rat):=⟨by unfold Bd; decide,by unfold Bd; decide⟩
 intro i
 match i with
 |0=>exact(hu.wV hl).mono (by omega)
 |1=>exact(((hu.mul hu).wV (hl.mul hl)).Hr t2 (by omega)).mono (by omega)
 |2=>exact((((hu.mul hu).mul hu).wV ((hl.mul hl).mul hl)).Hr t3 (by omega)).mono (by omega)
 |i+3=>
  show aZ _ ((tw l u).getD (i+3) 0)
  rw[List.getD_eq_getElem?_getD,List.getElem?_eq_none (by show 3<=i+3; omega)]
  exact Eg.mono (by omega)
end
def AY (n:Nat) (f g:Nat->Rat) (t:Nat):List Rat:=(List.range n).map λu=>if u<t then f u else g u
section
variable {n t:Nat} {f g:Nat->Rat}
theorem Pv:(AY n f g t).length=n:=dS
theorem Mq {L:List Rat} (h:L.length=n):AY n f (λu=>L.getD u 0) 0=L:=by
 show(List.range n).map _=L
 apply List.ext_getElem?
 intro u
 by_cases hu:u<n
 ·rw[List.getElem?_map,List.getElem?_range hu,List.getElem?_eq_getElem (by omega)]
  simp only[Option.map_some]
  rw[if_neg (Nat.not_lt_zero _),List.getD_eq_getElem?_getD,List.getElem?_eq_getElem (by omega)]
  rfl
 ·rw[List.getElem?_eq_none (by rw[dS]; omega),List.getElem?_eq_none (by omega)]
theorem Kr (ht:t<n):(AY n f g t).getD t 0=g t:=by unfold AY; rw[eM ht,if_neg (Nat.lt_irrefl _)]
theorem Mp (ht:t<n) {x:Rat} (hx:x=f t):(AY n f g t).set t x=AY n f g (t+1):=yB ht λu _=>by
 by_cases h:u=t
 ·rw[if_pos h,if_pos (by omega),h,hx]
 ·rw[if_neg h]
  by_cases h2:u<t
  ·rw[if_pos h2,if_pos (by omega)]
  ·rw[if_neg h2,if_neg (by omega)]
theorem Pu:AY n f g n=(List.range n).map f:=gz λu hu=>by rw[if_pos hu]
end
def u5 (n m:Nat) (f:Nat->Nat->Rat) (t k:Nat):List Rat:=(List.range n).map λu=>if u<t then f u m else if u=t then f u k else 0
section
variable {n m t k:Nat} {f:Nat->Nat->Rat}
theorem Qd:(u5 n m f t k).length=n:=dS
theorem MS (h0:∀u,f u 0=0):List.replicate n 0=u5 n m f 0 0:=by
 unfold u5
 rw[show List.replicate n (0:Rat)=(List.range n).map λ_=>0 by rw[List.map_const',List.length_range]]
 exact gz λi _=>by
  rw[if_neg (Nat.not_lt_zero _)]
  split
  ·exact(h0 i).symm
  ·rfl
theorem KT (ht:t<n):(u5 n m f t k).getD t 0=f t k:=by unfold u5; rw[eM ht,if_neg (Nat.lt_irrefl _),if_pos rfl]
theorem MR (ht:t<n) {x:Rat} (hx:x=f t (k+1)):(u5 n m f t k).set t x=u5 n m f t (k+1):=yB ht λu _=>by
 by_cases h:u=t
 ·rw[if_pos h,if_neg (by omega),if_pos h,h,hx]
 ·rw[if_neg h,if_neg h,if_neg h]
theorem MQ (h0:∀u,f u 0=0):u5 n m f t m=u5 n m f (t+1) 0:=gz λu _=>by
 by_cases h:u<t
 ·rw[if_pos h,if_pos (by omega)]
 ·rw[if_neg h]
  by_cases h2:u=t
  ·rw[if_pos h2,if_pos (by omega),h2]
  ·rw[if_neg h2,if_neg (by omega)]
   split
   ·exact(h0 u).symm
   ·rfl
theorem Qc:u5 n m f n 0=(List.range n).map λu=>f u m:=gz λu hu=>by rw[if_pos hu]
end
theorem KL {j:Nat} {ms:Nat->List Rat} {S:List bK} {i:Nat} (hm:∀q,aZ j ((ms (ai S i).gP.toNat).getD q 0)) (hj:1<=j) (hd:-1048576<=(ai S i).p/\(ai S i).p<=1048576 /\ -1048576<=(ai S i).q/\(ai S i).q<=1048576):∀t,aZ (28*j+2321) ((su ms S i).getD t 0):=
 λt=>(Av (By hm hj) (J7 (oZ hd)) t).mono (by omega)
end Wx
