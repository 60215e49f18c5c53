import Derived.Test.YtkcceahelokheaaGreatJLT35
import Derived.Test.YtkcceahelokheaaGreatCLTSemOne
import Derived.Test.YtkcceahelokheaaGreatJLT36
namespace Wx
open Go Go.RowKit
theorem wg {c:fT} {V:List Vr} {G:List bz} {a:Act} {w:World} {i s:Nat} (h:Inv c (eH i s (λ_ _ _=>False)::V) [] G none_ a w):False:=by
 obtain⟨β,h⟩:=h
 exact((aN rfl).1 (h.var _ (List.mem_cons_self ..) rfl)).2.out
section
variable {P:Program} {ops:Array Oper} {ms:List Nat} {c:fT} {V:List Vr} {A:List Al} {G:List bz} {i:Nat}{d:Nat} {x y z:Operand} {ty:TypeId} {pos:String} {aft:Array Edge}
theorem Zw {o:Oper} (h:OpOk P ops ms c V A G i o:=by exact o_load rfl rfl (by kernel_rfl) rfl (pt rfl) (aY (by kernel_rfl))):OpOk P ops ms c V A G i o:=h
variable {T:TypeId}
theorem UG (J n:Nat) (hJ:1<=J:=by omega) (hp:Post G i (pV au J (List.replicate n 0)):=by exact pt rfl) (hr:P.built T []=some ((List.replicate n Zl.r).flatMap Zl.cs).toArray:=by kernel_rfl):OpOk P ops ms c V A G i ⟨some d,.build T #[],ty,pos,aft,none⟩:=
 KC rfl rfl rfl rfl hp λρ w=>⟨.agg ((List.replicate n Zl.r).flatMap Zl.cs).toArray,by
  show(do pure (Next.value (<-Instr.build T ((#[]:Array (Nat×Operand)).map λ(q:Nat×Operand)=>(q.1,ρ q.2))))).run P w=_
  rw[show(#[]:Array (Nat×Operand)).map (λ(q:Nat×Operand)=>(q.1,ρ q.2))=#[] by simp,Sem.run_bind,run_build w T _ _ hr]
  rfl,λw=>by
  have h:=tP (List.replicate n Zl.r) w
  rw[List.map_replicate]at h
  refine xx hJ _ _ ?_
  show pS ((List.replicate n (0:Rat)).map (zb au 1)) w _
  rw[List.map_replicate]
  exact h⟩
variable {b:Nat}
theorem Wj {o o':Nat} (h:o=o'):∀w v,bg (.pointer (some ⟨b,o,none⟩)) w v->bg (.pointer (some ⟨b,o',none⟩)) w v:=h▸λ_ _ h=>h
theorem bP3 {x0 x1 x2:Operand} {v0 v1 v2:Value} (h0:Has ms G i x0 (bg v0):=by exact hs) (h1:Has ms G i x1 (bg v1):=by exact hs) (h2:Has ms G i x2 (bg v2):=by exact hs) (hp:Post G i (bg (.agg #[v0,v1,v2])):=by exact pt rfl) (hr:∀w,(Instr.build T #[(0,v0),(1,v1),(2,v2)]).run P w=.ok (.agg #[v0,v1,v2]) w:=by exactλ_=>by kernel_rfl):
  OpOk P ops ms c V A G i ⟨some d,.build T #[(0,x0),(1,x1),(2,x2)],ty,pos,aft,none⟩:=
 cC rfl rfl rfl (.inl rfl) hp λL β a w hI hd=>by
  have e0:a.eval x0=v0:=(h0.spec hI hd).out
  have e1:a.eval x1=v1:=(h1.spec hI hd).out
  have e2:a.eval x2=v2:=(h2.spec hI hd).out
  refine⟨.agg #[v0,v1,v2],w,?_,Below.refl _ _,λ_ _=>rfl⟩
  show(do pure (Next.value (<-Instr.build T ((#[(0,x0),(1,x1),(2,x2)]:Array (Nat×Operand)).map λ(q:Nat×Operand)=>(q.1,a.eval q.2))))).run P w=_
  rw[show(#[(0,x0),(1,x1),(2,x2)]:Array (Nat×Operand)).map (λ(q:Nat×Operand)=>(q.1,a.eval q.2))=#[(0,a.eval x0),(1,a.eval x1),(2,a.eval x2)] by simp,e0,e1,e2,Sem.run_bind,hr]
  rfl
theorem xP3 {off s:Nat} (q:Nat) (h:Has ms G i x (bg (.agg #[.pointer (some ⟨b,off,none⟩),.pointer (some ⟨b,off+s,none⟩),.pointer (some ⟨b,off+2*s,none⟩)])):=by exact hs) (hy:Has ms G i y (pI (q:Int)):=by exact(Wx.hs).imp (bk (by omega))) (hq:q<3:=by omega) (hp:Post G i (bg (.pointer (some ⟨b,off+q*s,none⟩))):=by exact pt rfl) (ht:GN P T 3 1=true:=by kernel_rfl) (kj:(match P.underlying T with|some (.array _ E)=>Gu P E false 1|_=>false)=true:=by kernel_rfl):
  OpOk P ops ms c V A G i ⟨some d,.index T x y,ty,pos,aft,none⟩:=
 pM rfl rfl rfl rfl h hy hp λρ w h1 h2=>by
  have h1:ρ x=.agg #[.pointer (some ⟨b,off,none⟩),.pointer (some ⟨b,off+s,none⟩),.pointer (some ⟨b,off+2*s,none⟩)]:=h1
  have h2:ρ y=.int .i64 (q:Int):=h2
  refine⟨.pointer (some ⟨b,off+q*s,none⟩),?_,λ_ _ _=>rfl⟩
  show(do pure (Next.value (<-Instr.index T (ρ x) (ρ y)))).run P w=_
  rw[h1,h2,Sem.run_bind]
  unfold GN at ht
  split at ht
  ·rename_i n E hE
   rw[Bool.and_eq_true]at ht
   have e:=Nat.eq_of_beq_eq_true ht.1
   subst e
   rw[hE]at kj
   have hty:=aY kj
   have hu:(underlying T).run P w=.ok (.array 3 E) w:=run_underlying hE w
   simp only[Instr.index,asIntOf,pure_bind,Sem.run_bind,hu,Result.andThen_ok]
   rw[if_pos ⟨by omega,by omega⟩]
   have ha:(isAgg E).run P w=.ok false w:=hty.UE w
   have hz:(Go.sizeOf E).run P w=.ok 1 w:=hty.size w
   have hc:q=0\/q=1\/q=2:=by omega
   rcases hc with rfl|rfl|rfl<;>simp[part,Sem.run_bind,ha,hz]
  ·cases ht
end
section
variable {P:Program} {w:World} {fn:Func}{f:FuncId} {C:Code} {v0 v1:Value} {M:Nat->Nat->Prop} {p p0 p1:Pred} {N:Nat}
theorem adR (hf:P.funcs[f]?=some fn) (hb:fn.body=some C) (hN:fn.ntmps=N) (hM:cL M w) (h0:aO M (λw=>p0 w v0) w) (h1:aO M (λw=>p1 w v1) w) (h:∀a,Inv ⟨N,w,M,λ_=>False⟩ [] [] [Uz 0 p0,Uz 1 p1] none_ a w->C.ww none [] P (zZ P fn (bH M p w)) a w) (hlen:decide ([v0,v1].length<=N)=true:=by kernel_rfl):Calls P f #[v0,v1] w (bH M p w):=
 vQ (vs:=[v0,v1]) hf hb hN hlen hM (show cF M w [v0,v1] [Uz 0 p0,Uz 1 p1]from⟨⟨rfl,_,rfl,h0⟩,⟨rfl,_,rfl,h1⟩,trivial⟩) h
variable {v2:Value} {p2:Pred}
theorem adS (hf:P.funcs[f]?=some fn) (hb:fn.body=some C) (hN:fn.ntmps=N) (hM:cL M w) (h0:aO M (λw=>p0 w v0) w) (h1:aO M (λw=>p1 w v1) w) (h2:aO M (λw=>p2 w v2) w) (h:∀a,Inv ⟨N,w,M,λ_=>False⟩ [] [] [Uz 0 p0,Uz 1 p1,Uz 2 p2] none_ a w->C.ww none [] P (zZ P fn (bH M p w)) a w) (hlen:decide ([v0,v1,v2].length<=N)=true:=by kernel_rfl):Calls P f #[v0,v1,v2] w (bH M p w):=
 vQ (vs:=[v0,v1,v2]) hf hb hN hlen hM (show cF M w [v0,v1,v2] [Uz 0 p0,Uz 1 p1,Uz 2 p2]from⟨⟨rfl,_,rfl,h0⟩,⟨rfl,_,rfl,h1⟩,⟨rfl,_,rfl,h2⟩,trivial⟩) h
theorem adT {v3:Value} {p3:Pred} (hf:P.funcs[f]?=some fn) (hb:fn.body=some C) (hN:fn.ntmps=N) (hM:cL M w) (h0:aO M (λw=>p0 w v0) w) (h1:aO M (λw=>p1 w v1) w) (h2:aO M (λw=>p2 w v2) w) (h3:aO M (λw=>p3 w v3) w) (h:∀a,Inv ⟨N,w,M,λ_=>False⟩ [] [] [Uz 0 p0,Uz 1 p1,Uz 2 p2,Uz 3 p3] none_ a w->C.ww none [] P (zZ P fn (bH M p w)) a w) (hlen:decide ([v0,v1,v2,v3].length<=N)=true:=by kernel_rfl):Calls P f #[v0,v1,v2,v3] w (bH M p w):=
 vQ (vs:=[v0,v1,v2,v3]) hf hb hN hlen hM (show cF M w [v0,v1,v2,v3] [Uz 0 p0,Uz 1 p1,Uz 2 p2,Uz 3 p3]from⟨⟨rfl,_,rfl,h0⟩,⟨rfl,_,rfl,h1⟩,⟨rfl,_,rfl,h2⟩,⟨rfl,_,rfl,h3⟩,trivial⟩) h
end
end Wx

namespace Wx
set_option maxRecDepth 100000
set_option maxHeartbeats 1000000
open Go Go.RowKit Go.Proofs
set_option linter.unusedVariables false
attribute [local irreducible] OpOk
def sV (L x:List Rat) (r:Rat) (n t:Nat):List Rat:=(List.range 27).map λu=>if 9*n<=u/\u<9*n+t then L.getD u 0+x.getD (u-9*n) 0*r else L.getD u 0
variable {L x:List Rat} {r:Rat} {n t:Nat}
theorem NV:(sV L x r n t).length=27:=dS
theorem F7 (h:L.length=n):(List.range n).map (λu=>L.getD u 0)=L:=by
 apply List.ext_getElem?
 intro u
 by_cases hu:u<n
 ·rw[List.getElem?_map,List.getElem?_range hu,List.getElem?_eq_getElem (by omega)]
  simp only[Option.map_some]
  rw[List.getD_eq_getElem?_getD,List.getElem?_eq_getElem (by omega)]
  rfl
 ·rw[List.getElem?_eq_none (by rw[dS]; omega),List.getElem?_eq_none (by omega)]
theorem Ln (h:L.length=27):sV L x r n 0=L:=by
 rw[<-F7 h]
 exact gz λu hu=>by rw[if_neg (by omega),F7 h]
theorem JK (hn:n<3) (ht:t<9):(sV L x r n t).getD (9*n+t) 0=L.getD (9*n+t) 0:=by
 unfold sV
 rw[eM (by omega),if_neg (by omega)]
theorem Lm (hn:n<3) (ht:t<9):(sV L x r n t).set (9*n+t) ((sV L x r n t).getD (9*n+t) 0+x.getD t 0*r)=sV L x r n (t+1):=by
 rw[JK hn ht]
 exact yB (by omega) λu _=>by
  by_cases h:u=9*n+t
  ·rw[if_pos (by omega),if_pos h,h,Nat.add_sub_cancel_left]
  ·rw[if_neg h]
   by_cases h2:9*n<=u/\u<9*n+t
   ·rw[if_pos (by omega),if_pos h2]
   ·rw[if_neg (by omega),if_neg h2]
variable {J j k:Nat}
theorem Zr {b:Nat} (h:L.length=27/\x.length=9/\n<3/\J+(j+k)<=40000000/\∀u,u<9->aZ J (L.getD (9*n+u) 0+x.getD u 0*r)):∀(M:Nat->Nat->Prop) (w:World) (v0 v1 v2:Value),cL M w->(∀o,¬M b o)->One b 81 (pV au J L) w->aO (qh M b) (λw=>bg (.pointer (some ⟨b,27*n,none⟩)) w v0) w->aO (qh M b) (λw=>pV au j x w v1) w->aO (qh M b) (λw=>pR k r w v2) w->Calls Tryz.prog 109 #[v0,v1,v2] w (NP M b 81 (bg (.tuple #[])) (pV au J (sV L x r n 9)) w):=by
 have hx:=h.2.1
 have hn:=h.2.2.1
 have hjj:=h.2.2.2.1
 intro M w0 v0 v1 v2 hM hbM h0 hv0 eI hv2
 refine adG (N:=37) Tryz.func109 rfl rfl hM hbM (mH λ_=>iZ) h0 hv0 eI hv2 λa hI=>?_
 refine bf hI 2 [⟨4,4,some 0,none,.ptr,75,27,true,pv _,[]⟩,⟨5,5,some 1,none,.ptr,40,3,true,pv _,[]⟩] [] [] (.k .z) (.bS .z) ⟨bo,bo,trivial⟩ (.k (.k (.k .z))) (.kdd .z) λa w hI=>?_
 refine bf hI 1 [] [] [Uc 0 8 _] (.k (.k (.k .z))) (.k .z) ⟨mv,trivial⟩ (.k (.k (.k .z))) (.kk .z) λa w hI=>?_
 refine aC ?_
 refine tN [Vz 4 4 75 27 true _,Vz 5 5 40 3 true _] [Uz 0 _] (λ(i:Nat)=>[fC 37 b 81 (pV au J (sV L x r n (3*i)))]) (λ(i:Nat)=>[Uz 8 (pI (i:Int))]) (λ(i:Nat)=>i<=3) (λ(i:Nat)=>3-i) (0) (Nat.zero_le 3) hI ⟨vi,vi,vO ((cq (Ln h.1).symm (Nat.le_refl _))),trivial⟩ ⟨gi,gc,trivial⟩ ?_
 intro i a w hi hI
 refine bf hI 1 [] [] [Uc 0 9 _] (.k (.k (.k .z))) (.kk .z) ⟨bn,trivial⟩ (.k (.k (.k .z))) (.bS .z) λa w hI=>?_
 refine az ?_
 refine mj hI (λt1=>?_) (λt1=>?_)
 ·
  refine aJ ?_
  refine ae ?_
  refine az ?_
  refine aC ?_
  refine bf hI 2 [] [] [Uc 0 10 _,Uc 1 6 _] (.k (.k (.k .z))) (.bS .z) ⟨mv,mv,trivial⟩ (.k (.k (.k .z))) (.dI (.k .z)) λa w hI=>?_
  refine bf hI 1 [] [] [Uc 0 11 _] (.k (.k (.k .z))) (.bS .z) ⟨mv,trivial⟩ (.k (.k (.k .z))) (.ah .z) λa w hI=>?_
  refine aC ?_
  refine tN [Vz 4 4 75 27 true _,Vz 5 5 40 3 true _] [Uz 0 _,Uz 8 _,Uz 6 _] (λ(k:Nat)=>[fC 37 b 81 (pV au J (sV L x r n (3*i+k)))]) (λ(k:Nat)=>[Uz 11 (pI (k:Int))]) (λ(k:Nat)=>k<=3) (λ(k:Nat)=>3-k) (0) (Nat.zero_le 3) hI ⟨vi,vi,vO,trivial⟩ ⟨gi,gi,gi,gc,trivial⟩ ?_
  intro k a w hk hI
  refine bf hI 1 [] [] [Uc 0 12 _] (.k (.k (.k .z))) (.ah .z) ⟨bn,trivial⟩ (.k (.k (.k .z))) (.ah (.k .z)) λa w hI=>?_
  refine az ?_
  refine mj hI (λt2=>?_) (λt2=>?_)
  ·
   refine aJ ?_
   refine ae ?_
   refine az ?_
   refine aC ?_
   refine bf hI 2 [] [] [Uc 0 13 _,Uc 1 7 _] (.k (.k (.k .z))) (.ah (.k .z)) ⟨mv,mv,trivial⟩ (.k (.k (.k .z))) (.ah (.lQ .z)) λa w hI=>?_
   have AB:=NV (L:=L) (x:=x) (r:=r) (n:=n) (t:=3*i+k)
   have hb:aZ J ((sV L x r n (3*i+k)).getD (9*n+(3*i+k)) 0+x.getD (3*i+k) 0*r):=by
    rw[JK h.2.2.1 (by omega)]
    exact h.2.2.2.2 _ (by omega)
   refine QK hI [0,0,0,0,0,0,8,88,248,504,0,0,1024,7168,15360,0,64512,131064,1,262147,1048575,2097151] [] [⟨some 12,26,4,(i)*9,True⟩,⟨some 13,27,4,(i)*9+(k)*3,True⟩] [Uc 0 14 _,Uc 1 15 _,Uc 2 16 _,Uc 3 17 _,Uc 4 18 _,Uc 5 19 _,Uc 6 20 _,Uc 7 21 _,Uc 8 22 _,Uc 9 23 _,Uc 10 24 _,Uc 11 25 _,Uc 14 28 _,Uc 15 29 _,Uc 16 30 _,Uc 17 31 _,Uc 18 32 _,Uc 19 33 _,Uc 20 34 _] (.k (.k (.u none [(21,_)] .z))) (.ah (.k .z)) ⟨mv,mv,mv,mv,mv,mv,nc,iE 3 9 i,iE 3 3 k,lO 37 (9*n+(3*i+k)),mv,mv,iA 3 9 i,iB 3 3 k,lV (3*(i)+(k)),ld,fZ cg,fZ (yJ hb),nc,iE 3 9 i,iE 3 3 k,sO 37 (9*n+(3*i+k)),trivial⟩ (.k (.k (.s .o .z))) (.ah (.d8 (.d8 (.bh .z)))) λa w hI=>?_
   refine aG ?_
   refine ae ?_
   refine qq hI 2 [] [] [Uc 0 35 _,Uc 1 11 _] (.k (.k (.k .z))) (.bS (.t 1 .z)) ⟨bn,mv,trivial⟩ (.k (.k (.k .z))) (.cA (.dk .z)) λa w hI=>?_
   refine ae ?_
   have hs1:(sV L x r n (3*i+k)).set (9*n+(3*i+k)) ((sV L x r n (3*i+k)).getD (9*n+(3*i+k)) 0+x.getD (3*i+k) 0*r)=sV L x r n (3*i+(k+1)):=Lm h.2.2.1 (by omega)
   exact qR (k+1) (by omega) hI ⟨vc,vc,vO (cq hs1 (Nat.le_refl _)),trivial⟩ ⟨gc,gc,gc,gc,trivial⟩ (by omega)
  ·
   refine bO ?_
   refine ak ?_
   refine ak ?_
   refine aH ?_
   refine aG ?_
   refine ae ?_
   obtain rfl:k=3:=by omega
   refine qq hI 2 [] [] [Uc 0 36 _,Uc 1 8 _] (.k (.k (.k .z))) (.k (.t 1 (.bS .z))) ⟨bn,mv,trivial⟩ (.k (.k (.k .z))) (.dx (.lQ .z)) λa w hI=>?_
   refine ae ?_
   exact qR (i+1) (by omega) hI ⟨vc,vc,vO ((cq (by rw[Nat.mul_add]) (Nat.le_refl _))),trivial⟩ ⟨gc,gc,trivial⟩ (by omega)
 ·
  refine bO ?_
  refine ak ?_
  refine ak ?_
  refine aH ?_
  obtain rfl:i=3:=by omega
  exact U3 (n0:=2) hI rfl rfl
structure lJ (n:Nat) (ms:Nat->List Rat) (S:List bK):Prop where
 thin:GH S
 gP:∀i,i<S.length->0<=(ai S i).gP/\(ai S i).gP<n
 m16:∀i,i<n->(ms i).length=16
 dir:∀i,i<S.length -> -1048576<=(ai S i).p/\(ai S i).p<=1048576 /\ -1048576<=(ai S i).q/\(ai S i).q<=1048576
def ofM (ms:Nat->List Rat) (S:List bK) (k m:Nat):List Rat:=(List.range 27).map λu=>if u<9*m then tT ms S (u/9) (u%9) (k+1)else tT ms S (u/9) (u%9) k
variable {ms:Nat->List Rat} {S:List bK} {m:Nat}
theorem Sl:(ofM ms S k m).length=27:=dS
theorem PK:List.replicate 27 0=xN ms S 0:=by
 show _=(List.range 27).map _
 rw[show List.replicate 27 (0:Rat)=(List.range 27).map λ_=>0 by rfl]
 exact gz λi _=>rfl
theorem PM:xN ms S k=ofM ms S k 0:=gz λu _=>by rw[if_neg (by omega)]
theorem Sk:ofM ms S k 3=xN ms S (k+1):=gz λu hu=>by rw[if_pos (by omega)]
theorem VZ {u:Nat} (h:∀m t k,m<3->t<9->k<=S.length->aZ J (tT ms S m t k)) (hk:k<S.length) (hm:m<3) (hu:u<9):aZ J ((ofM ms S k m).getD (9*m+u) 0+(su ms S k).getD u 0*(tw (ia S k) (ia S (k+1))).getD m 0):=by
 unfold ofM
 rw[eM (by omega),if_neg (by omega),show(9*m+u)/9=m by omega,show(9*m+u)%9=u by omega]
 exact h m u (k+1) hm hu hk
theorem PL (hm:m<3):sV (ofM ms S k m) (su ms S k) ((tw (ia S k) (ia S (k+1))).getD m 0) m 9=ofM ms S k (m+1):=gz λu hu=>by
 by_cases h:9*m<=u/\u<9*m+9
 ·rw[if_pos h,if_pos (by omega)]
  unfold ofM
  rw[eM hu,if_neg (by omega),show u/9=m by omega,show u-9*m=u%9 by omega]
  rfl
 ·rw[if_neg h]
  unfold ofM
  rw[eM hu]
  by_cases h2:u<9*m
  ·rw[if_pos h2,if_pos (by omega)]
  ·rw[if_neg h2,if_neg (by omega)]
theorem Zv (h:lJ n ms S/\1<=j/\j<=100000/\1<=J/\J<=10000000/\∀m t k,m<3->t<9->k<=S.length->aZ J (tT ms S m t k)):K2 Tryz.prog 61 (aA 48 true n λi=>pV au j (ms i)) (aA 4 true S.length λi=>cP (ai S i)) (pV au J (xN ms S S.length)):=by
 intro M w0 v0 v1 hM hv0 eI
 have hj:=h.2
 have Xc:=h.1.thin
 refine adR (N:=47) Tryz.func61 rfl rfl hM hv0 eI λa hI=>?_
 refine bf hI 3 [⟨4,4,some 2,none,.ptr,77,81,true,pv _,[]⟩] [] [Uc 0 2 _,Uc 1 3 _] .z (.kk .z) ⟨AK 1 false,AK 1 false,lE J 27,trivial⟩ (.k .z) (.xI .z) λa w hI=>?_
 refine bf hI 1 [⟨5,5,some 0,none,.ptr,77,81,true,pv _,[]⟩] [] [] (.k .z) (.kk .z) ⟨lE J 27,trivial⟩ (.k (.k .z)) (.kk .z) λa w hI=>?_
 obtain⟨b,hI⟩:=ZW hI 1 rfl
 dsimp only[List.set]at hI
 refine az ?_
 refine bf hI 2 [] [] [Uc 0 11 _,Uc 1 12 _] (.k (.k .z)) (.bS .z) ⟨ld,mS wj,trivial⟩ (.k (.k .z)) (.cA (.k .z)) λa w hI=>?_
 refine aC ?_
 refine Ay (y0:=13) (y1:=14) (τ:=Unit) (λk t=>[Vz 4 4 77 81 true (pV au J (List.replicate 27 0)),fC 5 b 81 (pV au J (xN ms S k))]) (λ_ _=>[eH 2 2 λ_ _ _=>False]) [Uz 5 _,Uz 2 _,Uz 3 _,Uz 12 _] [2,3,4,5,12] () (hI.cv ⟨vc,vO (cq PK (Nat.le_refl _)),trivial⟩ ⟨gc,gc,gc,gc,trivial⟩) rfl (λ_ _=>by kernel_rfl) (λ_ _=>by kernel_rfl) (by kernel_rfl) (by kernel_rfl) (by kernel_rfl) (λk t w0 M1 B1 a w D l r hk hr hI=>?_) (λt w D l r hI=>?_) (λcd t w D l r hI=>(wg hI).elim)
 ·
  dsimp only[List.append,List.map,HAppend.hAppend,Append.append,QV]at hI
  refine bf hI 1 [] [] [Uc 0 6 _] (.k (.k (.k .z))) (.k8 (.bS .z)) ⟨mv,trivial⟩ (.k (.k (.k .z))) (.k8 (.ah .z)) λa w hI=>?_
  refine qq hI 2 [⟨7,7,some 0,none,.ptr,94,6,true,pv _,[(1,pv _)]⟩] [] [] (.k (.k (.k .z))) (.k8 (.ah .z)) ⟨fB [.r,.r],dM,trivial⟩ (.k (.k (.k (.s .o .z)))) (.k8 (.ah .z)) λa w hI=>?_
  refine ae ?_
  refine GU hI 2 hr (λw hI=>?_)
  dsimp only[List.set]at hI
  have LU:=h.1.gP k hk
  have Nz:=h.1.m16 (ai S k).gP.toNat (by omega)
  have Xa:=h.1.dir k hk
  have hm4:=jT (m:=ms (ai S k).gP.toNat)
  have hm5:(tw (ia S k) (ia S (k+1))).length=3:=rfl
  refine aC ?_
  refine mR hI [0,0,0,6,14,30,63,127,255,0,0,1536,3584,7680,16383,0,65535] [⟨8,8,some 15,none,.ptr,75,27,true,pv _,[(16,pv _)]⟩] [] [Uc 0 15 _,Uc 1 16 _,Uc 2 17 _,Uc 3 18 _,Uc 4 19 _,Uc 5 20 _,Uc 6 21 _,Uc 7 22 _,Uc 8 23 _,Uc 9 24 _,Uc 10 25 _,Uc 11 26 _,Uc 12 27 _,Uc 13 28 _,Uc 14 29 _] (.k (.k (.k (.k .z)))) (.k8 (.ah .z)) ⟨ld,ld,mv,ix,fP 0 1 false,ld,ix,ld,mS yn,ld,mv,ix,fP 1 2 true,ld,pq uG,fB [.r,.r,.r,.r,.r,.r,.r,.r,.r],dM,trivial⟩ (.k (.k (.k (.k (.s .o .z))))) (.k8 (.ah (.d8 (.bh (.qy .z))))) λa w hI=>?_
  refine bf hI 3 [] [] [Uc 0 30 _,Uc 1 31 _,Uc 2 32 _] (.k (.k (.k (.k (.k .z))))) (.k8 (.ah .z)) ⟨ld,mS BZ,mv,trivial⟩ (.k (.k (.k (.k (.k .z))))) (.k8 (.ah (.Ok .z))) λa w hI=>?_
  refine aC ?_
  refine tN [Vz 4 4 77 81 true _,eH 47 47 _,Vz 7 7 94 6 true _,Vz 8 8 75 27 true _] [Uz 14 _,Uz 13 _,Uz 5 _,Uz 2 _,Uz 3 _,Uz 12 _,Uz 2 _,Uz 3 _,Uz 4 _,Uz 5 _,Uz 12 _,Uz 6 _,Uz 31 _] (λ(m:Nat)=>[fC 5 b 81 (pV au J (ofM ms S k m))]) (λ(m:Nat)=>[Uz 32 (pI (m:Int))]) (λ(m:Nat)=>m<=3) (λ(m:Nat)=>3-m) (0) (Nat.zero_le 3) hI ⟨vi,vA,vi,vi,vO (cq PM (Nat.le_refl _)),trivial⟩ ⟨gi,gi,gi,gi,gi,gi,gq 6,gq 7,gq 8,gq 9,gq 10,gi,gi,gc,trivial⟩ ?_
  intro m a w hm hI
  have LU:=h.1.gP k hk
  have Nz:=h.1.m16 (ai S k).gP.toNat (by omega)
  have Xa:=h.1.dir k hk
  have hm4:=jT (m:=ms (ai S k).gP.toNat)
  have hm5:(tw (ia S k) (ia S (k+1))).length=3:=rfl
  refine bf hI 1 [] [] [Uc 0 33 _] (.k (.k (.k (.k (.k .z))))) (.k8 (.ah (.kk .z))) ⟨bn,trivial⟩ (.k (.k (.k (.k (.k .z))))) (.k8 (.ah (.bS .z))) λa w hI=>?_
  refine az ?_
  refine mj hI (λt1=>?_) (λt1=>?_)
  ·
   refine aJ ?_
   refine ae ?_
   refine az ?_
   refine aC ?_
   refine bf hI 5 [⟨10,10,some 2,none,.ptr,40,3,true,pv _,[(4,pv _)]⟩] [] [Uc 0 34 _,Uc 1 35 _,Uc 3 9 _] (.k (.k (.k (.k (.k .z))))) (.k8 (.ah (.bS .z))) ⟨mv,Zm 3 m,fB [.r],mv,dM,trivial⟩ (.k (.k (.k (.k (.k (.s .o .z)))))) (.k8 (.ah (.dI (.dk .z)))) λa w hI=>?_
   refine Xq hI [0,0,0,7,0,31,0,0,255] 8 [] [] [Uc 0 36 _,Uc 1 37 _,Uc 2 38 _,Uc 3 39 _,Uc 4 40 _,Uc 5 41 _,Uc 6 42 _,Uc 7 43 _] (.k (.k (.k (.k (.k (.k .z)))))) (.k8 (.ah (.bS .z))) ⟨fE 0,fE 27,fE 54,bP3,mv,xP3 (s:=27) m,ld,ld,trivial⟩ (.k (.k (.k (.k (.k (.d .z)))))) (.k8 (.ah (.dI (.bh (.bS .z))))) ⟨_,cP3 (n0:=4) (Zr (n:=m) (J:=J) (L:=ofM ms S k m)) (c1:=Wj (by omega)) (hφ:=⟨Sl,nP,by omega,by omega,λu hu=>VZ h.2.2.2.2.2 hk (by omega) hu⟩),rfl⟩ λa w hI=>?_
   dsimp only[List.set]at hI
   refine aG ?_
   refine ae ?_
   refine qq hI 2 [] [] [Uc 0 45 _,Uc 1 32 _] (.k (.k (.k (.k (.k .z))))) (.k8 (.ah (.kk (.t 1 (.bS .z))))) ⟨bn,mv,trivial⟩ (.k (.k (.k (.k (.k .z))))) (.mw (.k8 (.dI (.dw .z)))) λa w hI=>?_
   refine ae ?_
   exact qR (m+1) (by omega) hI ⟨vc,vA,vc,vc,vO (cq (PL (by omega)) (Nat.le_refl _)),trivial⟩ ⟨gc,gc,gc,gc,gc,gc,gq 6,gq 7,gq 8,gq 9,gq 10,gc,gc,gc,trivial⟩ (by omega)
  ·
   refine bO ?_
   refine ak ?_
   refine ak ?_
   refine aH ?_
   refine aG ?_
   obtain rfl:m=3:=by omega
   exact⟨(),hI.cv ⟨vc,vO (cq Sk (Nat.le_refl _)),vA,trivial⟩ ⟨gc,gc,gc,gc,gq 6,gq 7,gq 8,gq 9,gq 10,trivial⟩⟩
 ·
  dsimp only[List.append,HAppend.hAppend,Append.append]at hI
  refine aG ?_
  refine ae ?_
  refine Ee ?_
  refine bf hI 2 [] [] [Uc 0 46 _] (.u none [(1,pv _)] (.k (.k .z))) (.ah .z) ⟨lOA 5,dM,trivial⟩ (.s .o (.k (.k .z))) (.bh (.d .z)) λa w hI=>?_
  refine aL ?_
  exact TA hI 2 rfl r7
end Wx

namespace Wx
set_option maxRecDepth 100000
set_option maxHeartbeats 1000000
open Go Go.RowKit Go.Proofs
set_option linter.unusedVariables false
attribute [local irreducible] OpOk
variable {p q:Int}
theorem uo (h:fM p q=true):-1048576<=p/\p<=1048576 /\ -1048576<=q/\q<=1048576:=by
 unfold fM Oy at h
 simp only[Bool.and_eq_true,Bool.not_eq_true',Bool.or_eq_false_iff,decide_eq_false_iff_not]at h
 omega
theorem uU {x:bK} (h:lZ x=0):fM x.p x.q=true/\1<=x.t/\x.t<=10000:=by
 unfold lZ I3 at h
 split at h
 ·exact absurd h (by decide)
 ·rename_i h1
  simp only[Bool.or_eq_true,Bool.not_eq_true',decide_eq_true_eq,not_or,Bool.not_eq_false]at h1
  exact⟨h1.1.1,by omega,by omega⟩
variable {S:List bK} {i:Nat}
theorem wO (h:S.length<=i):ai S i=FW:=by
 unfold ai
 rw[List.getD_eq_getElem?_getD,List.getElem?_eq_none h]
 rfl
variable {n:Nat} {E:Nat->Int}
theorem wU (h:fR n E S=0):(1<=n/\n<=8)/\1<=S.length/\S.length<=64:=by
 unfold fR at h
 split at h
 ·exact absurd h (by decide)
 ·rename_i h1
  unfold sM at h1
  simp only[Bool.or_eq_true,decide_eq_true_eq,not_or]at h1
  omega
theorem Cq (h:fR n E S=0):∀i,i<n->E i=0:=by
 unfold fR at h
 split at h
 ·exact absurd h (by decide)
 ·split at h
  ·rename_i h2
   exact qF h2
  ·rename_i h2
   exact absurd h h2
theorem mg (h:fR n E S=0) {i:Nat} (hi:i<S.length):(0<=(ai S i).gP/\(ai S i).gP<n)/\lZ (ai S i)=0:=by
 unfold fR at h
 split at h
 ·exact absurd h (by decide)
 ·split at h
  ·have h3:=qF h i hi
   unfold A9 at h3
   split at h3
   ·exact absurd h3 (by decide)
   ·rename_i h4
    simp only[Bool.or_eq_true,decide_eq_true_eq,not_or]at h4
    exact⟨by omega,h3⟩
  ·rename_i h2
   exact absurd h h2
variable {ms:Nat->List Rat}
theorem mP (hm:∀i,i<n->(ms i).length=16) (h:fR n E S=0):lJ n ms S where
 thin:=⟨by have:=(wU h).2; omega,λi=>by
  by_cases hi:i<S.length
  ·have:=(uU (mg h hi).2).2
   omega
  ·rw[wO (by omega)]
   exact⟨Int.le_refl _,by decide⟩⟩
 gP:=λi hi=>(mg h hi).1
 m16:=hm
 dir:=λi hi=>uo (uU (mg h hi).2).1
structure jQ (n j:Nat) (ms:Nat->List Rat):Prop where
 m16:∀i,i<n->(ms i).length=16
 j1:1<=j
 bd:∀i q,i<n->aZ j ((ms i).getD q 0)
abbrev lq (n:Nat) (ms:Nat->List Rat) (S:List bK):Int:=fR n (λk=>tv (ms k)) S
def pZ (n:Nat) (ms:Nat->List Rat) (S:List bK):List Rat:=if lq n ms S=0 then xN ms S S.length else List.replicate 27 0
theorem DD {n j:Nat} {ms:Nat->List Rat} {S:List bK} (h:lJ n ms S) (hm:jQ n j ms) (m t:Nat):∀k,k<=S.length->aZ (1+k*(28*j+2558)) (tT ms S m t k)
 |0,_=>by rw[Nat.zero_mul]; exact Eg
 |k+1,hk=>by
  have h1:=h.gP k (by omega)
  have hq:=KL (ms:=ms) (S:=S) (i:=k) (λq=>hm.bd _ q (by omega)) hm.j1 (h.dir k (by omega)) t
  exact((DD h hm m t k (by omega)).qx (hq.mul (Ks (qP h.thin (by omega)) (qP h.thin hk) m))).mono (by(have e:(k+1)*(28*j+2558)=k*(28*j+2558)+(28*j+2558):=Nat.succ_mul _ _); omega)
variable {j J:Nat}
theorem Pc (h:jQ n j ms/\j<=100000/\n<=1000000/\S.length<=1000000/\1<=J/\J<=10000000/\(lq n ms S=0->∀m t k,m<3->t<9->k<=S.length->aZ J (tT ms S m t k))):K2 Tryz.prog 24 (aA 48 true n λi=>pV au j (ms i)) (aA 4 true S.length λi=>cP (ai S i)) (cN (pV au J (pZ n ms S)) (pI (lq n ms S))):=by
 intro M w0 v0 v1 hM hv0 eI
 refine rG (N:=17) Tryz.func24 rfl rfl rfl hM hv0 eI λa hI=>?_
 refine bf hI 2 [⟨4,4,some 0,none,.ptr,77,81,true,pv _,[]⟩] [] [Uc 1 5 _] .z (.kk .z) ⟨lE J 27,mv,trivial⟩ (.k .z) (.bS .z) λa w hI=>?_
 refine az ?_
 refine bf hI 4 [] [] [Uc 0 7 _,Uc 1 8 _,Uc 2 9 _,Uc 3 6 _] (.k .z) (.bS .z) ⟨mv,mv,pq (uF (n:=n) (J:=j) (ms:=ms)) (hφ:=⟨h.1.m16,h.1.j1,by omega,h.2.2.1,h.2.2.2.1⟩),mv,trivial⟩ (.k .z) (.cA (.lQ .z)) λa w hI=>?_
 refine bf hI 2 [] [] [Uc 0 10 _,Uc 1 11 _] (.k .z) (.ah .z) ⟨mv,bn,trivial⟩ (.k .z) (.ah (.dk .z)) λa w hI=>?_
 refine mj hI (λt1=>?_) (λt1=>?_)
 ·
  refine bf hI 4 [] [] [Uc 0 12 _,Uc 1 13 _,Uc 3 5 _] (.u none [(2,pv _)] .z) (.kk (.t 3 (.kk .z))) ⟨UG J 27,mv,dM,mv,trivial⟩ (.s .o .z) (.dI (.dw .z)) λa w hI=>?_
  refine aL ?_
  refine aB ?_
  exact jZ hI rfl (r7 (hq:=cq (by unfold pZ; rw[if_neg t1]) (Nat.le_refl _))) iu
 ·
  have e0:lq n ms S=0:=Decidable.not_not.1 t1
  refine aJ ?_
  refine ae ?_
  refine bf hI 5 [] [] [Uc 0 14 _,Uc 1 15 _,Uc 2 16 _,Uc 4 5 _] (.u none [(3,pv _)] .z) (.kk (.t 4 (.kk .z))) ⟨mv,mv,pq (Zv (n:=n) (j:=j) (J:=J) (ms:=ms) (S:=S)) (hφ:=⟨mP h.1.m16 e0,h.1.j1,h.2.1,h.2.2.2.2.1,h.2.2.2.2.2.1,h.2.2.2.2.2.2 e0⟩),dM,mv,trivial⟩ (.s .o .z) (.d8 (.k .z)) λa w hI=>?_
  refine aL ?_
  exact jZ hI rfl (r7 (hq:=cq (by unfold pZ; rw[if_pos e0]) (Nat.le_refl _))) (iu (hq:=bk e0.symm))
def vv (m:List Rat) (p q:Int):Int:=if tv m≠0 then tv m else if !fM p q then 1 else 0
def P7 (m:List Rat):List Rat:=kP (iS m) (nY (cR 1 0))
variable {m:List Rat}
theorem Pe (h:m.length=16/\1<=j/\j<=100000):K2 Tryz.prog 57 (pV au j m) (pS [⟨false,1,pI p⟩,⟨false,1,pI q⟩]) (cN (pV au (4*(7*j+1)+2400) (if vv m p q=0 then kP (iS m) (nY (cR p q))else List.replicate 9 0)) (pI (vv m p q))):=by
 intro M w0 v0 v1 hM hv0 eI
 refine rG (N:=21) Tryz.func57 rfl rfl rfl hM hv0 eI λa hI=>?_
 refine bf hI 4 [⟨2,2,some 0,none,.ptr,97,48,true,pv _,[]⟩,⟨3,3,some 1,none,.ptr,66,2,true,pv _,[]⟩,⟨4,4,some 2,none,.ptr,75,27,true,pv _,[]⟩] [] [Uc 3 5 _] .z (.kk .z) ⟨bo,bo,lE (4*(7*j+1)+2400) 9,mv,trivial⟩ (.k (.k (.k .z))) (.lQ .z) λa w hI=>?_
 refine az ?_
 refine bf hI 3 [] [] [Uc 0 7 _,Uc 1 8 _,Uc 2 6 _] (.k (.k (.k .z))) (.k .z) ⟨ld,mS lD,mv,trivial⟩ (.k (.k (.k .z))) (.nh .z) λa w hI=>?_
 refine bf hI 2 [] [] [Uc 0 9 _,Uc 1 10 _] (.k (.k (.k .z))) (.kk .z) ⟨mv,bn,trivial⟩ (.k (.k (.k .z))) (.sq .z) λa w hI=>?_
 refine mj hI (λt1=>?_) (λt1=>?_)
 ·
  have e1:vv m p q=tv m:=by unfold vv; rw[if_pos t1]
  refine bf hI 4 [] [] [Uc 0 11 _,Uc 1 12 _,Uc 3 5 _] (.k (.k (.u none [(2,pv _)] .z))) (.t 3 (.kk .z)) ⟨UG (4*(7*j+1)+2400) 9,mv,dM,mv,trivial⟩ (.k (.k (.s .o .z))) (.bh (.dk .z)) λa w hI=>?_
  refine aL ?_
  refine aB ?_
  exact jZ hI rfl (r7 (hq:=cq (by rw[if_neg (by rw[e1]; exact t1)]) (Nat.le_refl _))) (iu (hq:=bk e1.symm))
 ·
  refine aJ ?_
  refine ae ?_
  refine az ?_
  refine bf hI 3 [] [] [Uc 0 13 _,Uc 1 14 _,Uc 2 15 _] (.k (.k (.k .z))) (.bS .z) ⟨ld,mS yo,nt,trivial⟩ (.k (.k (.k .z))) (.dx (.dk .z)) λa w hI=>?_
  refine Cy hI (λt2=>?_) (λt2=>?_)
  ·
   have e1:vv m p q=1:=by unfold vv; rw[if_neg t1,if_pos t2]
   refine bf hI 3 [] [] [Uc 0 16 _,Uc 2 5 _] (.k (.k (.u none [(1,pv _)] .z))) (.t 2 (.k .z)) ⟨UG (4*(7*j+1)+2400) 9,dM,mv,trivial⟩ (.k (.k (.s .o .z))) (.dw .z) λa w hI=>?_
   refine aL ?_
   refine aB ?_
   exact jZ hI rfl (r7 (hq:=cq (by rw[if_neg (by rw[e1]; decide)]) (Nat.le_refl _))) (iu (hq:=bk e1.symm))
  ·
   have e1:vv m p q=0:=by unfold vv; rw[if_neg t1,if_neg (by rw[t2]; exact Bool.false_ne_true)]
   have hd:=uo (p:=p) (q:=q) (by simpa using t2)
   have hb4:=jT (m:=m)
   refine aJ ?_
   refine ae ?_
   refine mR hI [0,1,0,7,15,31] [] [] [Uc 0 17 _,Uc 1 18 _,Uc 2 19 _,Uc 3 20 _,Uc 5 5 _] (.k (.k (.u none [(4,pv _)] .z))) (.t 5 (.k .z)) ⟨ld,mS yn,ld,pq uG,dM,mv,trivial⟩ (.d (.d (.s .o .z))) (.bh (.lQ .z)) λa w hI=>?_
   refine aL ?_
   exact jZ hI rfl (r7 (hq:=cq (by rw[if_pos e1]) (Nat.le_refl _))) (iu (hq:=bk e1.symm))
theorem Zq (h:m.length=16/\1<=j/\j<=100000):K1 Tryz.prog 123 (pV au j m) (cN (pV au (4*(7*j+1)+2400) (if tv m=0 then P7 m else List.replicate 9 0)) (pI (tv m))):=by
 intro M w0 v0 hM hv0
 refine om (N:=15) Tryz.func123 rfl rfl rfl hM hv0 λa hI=>?_
 refine bf hI 3 [⟨1,1,some 0,none,.ptr,97,48,true,pv _,[]⟩,⟨2,2,some 1,none,.ptr,75,27,true,pv _,[]⟩] [] [Uc 2 3 _] .z (.k .z) ⟨bo,lE (4*(7*j+1)+2400) 9,mv,trivial⟩ (.k (.k .z)) (.dk .z) λa w hI=>?_
 refine az ?_
 refine bf hI 3 [] [] [Uc 0 5 _,Uc 1 6 _,Uc 2 4 _] (.k (.k .z)) (.k .z) ⟨ld,mS lD,mv,trivial⟩ (.k (.k .z)) (.nh .z) λa w hI=>?_
 refine bf hI 2 [] [] [Uc 0 7 _,Uc 1 8 _] (.k (.k .z)) (.kk .z) ⟨mv,bn,trivial⟩ (.k (.k .z)) (.sq .z) λa w hI=>?_
 refine mj hI (λt1=>?_) (λt1=>?_)
 ·
  refine bf hI 4 [] [] [Uc 0 9 _,Uc 1 10 _,Uc 3 3 _] (.k (.u none [(2,pv _)] .z)) (.t 3 (.kk .z)) ⟨UG (4*(7*j+1)+2400) 9,mv,dM,mv,trivial⟩ (.k (.s .o .z)) (.bh (.dk .z)) λa w hI=>?_
  refine aL ?_
  refine aB ?_
  exact jZ hI rfl (r7 (hq:=cq (by rw[if_neg t1]) (Nat.le_refl _))) iu
 ·
  have e0:tv m=0:=Decidable.not_not.1 t1
  have hb4:=jT (m:=m)
  refine aJ ?_
  refine ae ?_
  refine bf hI 6 [] [] [Uc 0 11 _,Uc 1 12 _,Uc 2 13 _,Uc 3 14 _,Uc 5 3 _] (.k (.u none [(4,pv _)] .z)) (.t 5 (.kk .z)) ⟨ld,mS yn,bd [.o .i,.o .i] [(0,_)],pq uG,dM,mv,trivial⟩ (.d (.s .o .z)) (.bh (.dw .z)) λa w hI=>?_
  refine aL ?_
  exact jZ hI rfl (r7 (hq:=cq (by rw[if_pos e0]; rfl) (Nat.le_refl _))) (iu (hq:=bk e0.symm))
variable {v:List Rat}
theorem Dw {w':List Rat} {r:Rat} {k:Nat} (h:v.length=3/\w'.length=3/\i<=J/\1<=J/\J+(j+k)<=40000000/\∀t,t<3->aZ J (v.getD t 0+w'.getD t 0*r)):K3 Tryz.prog 112 (pV au i v) (pV au j w') (pR k r) (pV au J (xy v w' r)):=by
 intro M w0 v0 v1 v2 hM hv0 eI hv2
 refine WJ (N:=24) Tryz.func112 rfl rfl rfl hM hv0 eI hv2 λa hI=>?_
 refine bf hI 4 [⟨3,3,some 0,none,.ptr,43,9,true,pv _,[]⟩,⟨4,4,some 1,none,.ptr,43,9,true,pv _,[]⟩,⟨5,5,some 2,none,.ptr,40,3,true,pv _,[]⟩,⟨6,6,some 3,none,.ptr,43,9,true,pv _,[]⟩] [] [] .z (.bS .z) ⟨bo,bo,bo,lE J 3,trivial⟩ (.k (.k (.k (.k .z)))) (.qy .z) λa w hI=>?_
 refine az ?_
 refine bf hI 1 [] [] [Uc 0 8 _] (.k (.k (.k (.k .z)))) .z ⟨mv,trivial⟩ (.k (.k (.k (.k .z)))) (.k .z) λa w hI=>?_
 refine aC ?_
 refine tN [Vz 4 4 43 9 true _,Vz 5 5 40 3 true _,Vz 6 6 43 9 true _] [] (λ(t:Nat)=>[Vz 3 3 43 9 true (pV au J (AY 3 (λu=>v.getD u 0+w'.getD u 0*r) (λu=>v.getD u 0) t))]) (λ(t:Nat)=>[Uz 8 (pI (t:Int))]) (λ(t:Nat)=>t<=3) (λ(t:Nat)=>3-t) (0) (Nat.zero_le 3) hI ⟨vi,vi,vi,vC ((cq (Mq h.1).symm h.2.2.1)),trivial⟩ ⟨gc,trivial⟩ ?_
 intro t a w ht hI
 refine bf hI 1 [] [] [Uc 0 9 _] (.k (.k (.k (.k .z)))) (.k .z) ⟨bn,trivial⟩ (.k (.k (.k (.k .z)))) (.kk .z) λa w hI=>?_
 refine az ?_
 refine mj hI (λt1=>?_) (λt1=>?_)
 ·
  refine aJ ?_
  refine ae ?_
  refine az ?_
  refine aC ?_
  refine bf hI 2 [] [] [Uc 0 10 _,Uc 1 7 _] (.k (.k (.k (.k .z)))) (.kk .z) ⟨mv,mv,trivial⟩ (.k (.k (.k (.k .z)))) (.nh .z) λa w hI=>?_
  have AB:=Pv (n:=3) (f:=λu=>v.getD u 0+w'.getD u 0*r) (g:=λu=>v.getD u 0) (t:=t)
  have hb:aZ J ((AY 3 (λu=>v.getD u 0+w'.getD u 0*r) (λu=>v.getD u 0) t).getD t 0+w'.getD t 0*r):=by
   rw[Kr (by omega)]
   exact h.2.2.2.2.2 t (by omega)
  refine QK hI [0,0,2,6,0,16,48,0,240,510,1023,2047] [] [⟨some 2,13,3,(t)*3,True⟩,⟨some 5,16,4,(t)*3,True⟩,⟨some 10,21,3,(t)*3,True⟩] [Uc 0 11 _,Uc 1 12 _,Uc 3 14 _,Uc 4 15 _,Uc 6 17 _,Uc 7 18 _,Uc 8 19 _,Uc 9 20 _] (.k (.k (.k (.u none [(11,pv _)] .z)))) (.kk .z) ⟨mv,mv,iA 3 3 t,lV ((t)),mv,iA 3 3 t,lV ((t)),ld,fZ cg,fZ (yJ hb),iA 3 3 t,sJ ((t)),trivial⟩ (.k (.k (.k (.s .o .z)))) (.dx (.bh (.dd .z))) λa w hI=>?_
  refine aG ?_
  refine ae ?_
  refine qq hI 2 [] [] [Uc 0 22 _,Uc 1 8 _] (.k (.k (.k (.k .z)))) (.t 1 .z) ⟨bn,mv,trivial⟩ (.k (.k (.k (.k .z)))) (.lQ .z) λa w hI=>?_
  refine ae ?_
  have hs1:=Mp (n:=3) (f:=λu=>v.getD u 0+w'.getD u 0*r) (g:=λu=>v.getD u 0) (t:=t) (x:=(AY 3 (λu=>v.getD u 0+w'.getD u 0*r) (λu=>v.getD u 0) t).getD t 0+w'.getD t 0*r) (by omega) (by rw[Kr (by omega)])
  exact qR (t+1) (by omega) hI ⟨vc,vc,vc,vC ((cq hs1 (Nat.le_refl _))),trivial⟩ ⟨gc,trivial⟩ (by omega)
 ·
  refine bO ?_
  refine ak ?_
  refine ak ?_
  refine aH ?_
  refine ae ?_
  obtain rfl:t=3:=by omega
  refine bf hI 2 [] [] [Uc 0 23 _] (.k (.k (.u none [(1,pv _)] (.k .z)))) (.kk .z) ⟨ld,dM,trivial⟩ (.d (.d (.s .o (.d .z)))) (.qy .z) λa w hI=>?_
  refine aL ?_
  exact ck hI rfl (r7 (hq:=cq Pu (Nat.le_refl _)))
theorem Kl (h:m.length=9/\v.length=3/\1<=J/\J+(i+j)<=40000000/\∀t k,t<3->k<=3->aZ J (Ar m v t k)):K2 Tryz.prog 110 (pV au i m) (pV au j v) (pV au J (tL m v)):=by
 intro M w0 v0 v1 hM hv0 eI
 refine rG (N:=33) Tryz.func110 rfl rfl rfl hM hv0 eI λa hI=>?_
 refine bf hI 3 [⟨2,2,some 0,none,.ptr,75,27,true,pv _,[]⟩,⟨3,3,some 1,none,.ptr,43,9,true,pv _,[]⟩,⟨4,4,some 2,none,.ptr,43,9,true,pv _,[]⟩] [] [] .z (.kk .z) ⟨bo,bo,lE J 3,trivial⟩ (.k (.k (.k .z))) (.dd .z) λa w hI=>?_
 refine bf hI 1 [⟨5,5,some 0,none,.ptr,43,9,true,pv _,[]⟩] [] [] (.k (.k (.k .z))) .z ⟨lE J 3,trivial⟩ (.k (.k (.k (.k .z)))) .z λa w hI=>?_
 refine az ?_
 refine bf hI 1 [] [] [Uc 0 9 _] (.k (.k (.k (.k .z)))) .z ⟨mv,trivial⟩ (.k (.k (.k (.k .z)))) (.k .z) λa w hI=>?_
 refine aC ?_
 refine tN [Vz 2 2 75 27 true _,Vz 3 3 43 9 true _,Vz 4 4 43 9 true _] [] (λ(t:Nat)=>[Vz 5 5 43 9 true (pV au J (u5 3 3 (Ar m v) t 0))]) (λ(t:Nat)=>[Uz 9 (pI (t:Int))]) (λ(t:Nat)=>t<=3) (λ(t:Nat)=>3-t) (0) (Nat.zero_le 3) hI ⟨vi,vi,vi,vC ((cq (MS λ_=>rfl) (Nat.le_refl _))),trivial⟩ ⟨gc,trivial⟩ ?_
 intro t a w ht hI
 refine bf hI 1 [] [] [Uc 0 10 _] (.k (.k (.k (.k .z)))) (.k .z) ⟨bn,trivial⟩ (.k (.k (.k (.k .z)))) (.kk .z) λa w hI=>?_
 refine az ?_
 refine mj hI (λt1=>?_) (λt1=>?_)
 ·
  refine aJ ?_
  refine ae ?_
  refine az ?_
  refine aC ?_
  refine bf hI 2 [] [] [Uc 0 11 _,Uc 1 6 _] (.k (.k (.k (.k .z)))) (.kk .z) ⟨mv,mv,trivial⟩ (.k (.k (.k (.k .z)))) (.nh .z) λa w hI=>?_
  refine bf hI 2 [] [] [Uc 0 12 _,Uc 1 13 _] (.k (.k (.k (.k .z)))) (.kk .z) ⟨ld,mv,trivial⟩ (.k (.k (.k (.k .z)))) (.ah .z) λa w hI=>?_
  refine aC ?_
  refine tN [Vz 2 2 75 27 true _,Vz 3 3 43 9 true _,Vz 4 4 43 9 true _] [Uz 9 _,Uz 6 _,Uz 12 _] (λ(k:Nat)=>[Vz 5 5 43 9 true (pV au J (u5 3 3 (Ar m v) t k))]) (λ(k:Nat)=>[Uz 13 (pI (k:Int))]) (λ(k:Nat)=>k<=3) (λ(k:Nat)=>3-k) (0) (Nat.zero_le 3) hI ⟨vi,vi,vi,vc,trivial⟩ ⟨gi,gi,gi,gc,trivial⟩ ?_
  intro k a w hk hI
  refine bf hI 1 [] [] [Uc 0 14 _] (.k (.k (.k (.k .z)))) (.ah .z) ⟨bn,trivial⟩ (.k (.k (.k (.k .z)))) (.ah (.k .z)) λa w hI=>?_
  refine az ?_
  refine mj hI (λt2=>?_) (λt2=>?_)
  ·
   refine aJ ?_
   refine ae ?_
   refine az ?_
   refine aC ?_
   refine bf hI 5 [⟨8,8,some 2,none,.ptr,40,3,true,pv _,[(4,pv _)]⟩] [] [Uc 0 15 _,Uc 1 16 _,Uc 3 7 _] (.k (.k (.k (.k .z)))) (.ah (.k .z)) ⟨mv,Zm 3 k,fB [.r],mv,dM,trivial⟩ (.k (.k (.k (.k (.s .o .z))))) (.ah (.dw .z)) λa w hI=>?_
   have AB:=Qd (n:=3) (m:=3) (f:=Ar m v) (t:=t) (k:=k)
   have hb:aZ J ((u5 3 3 (Ar m v) t k).getD t 0+m.getD (3*t+k) 0*v.getD k 0):=by
    rw[KT (by omega)]
    exact h.2.2.2.2 t (k+1) (by omega) (by omega)
   refine QK hI [0,0,2,6,0,0,16,112,240,0,1008,2046,4095,8191] [] [⟨some 2,19,5,(t)*3,True⟩,⟨some 6,23,2,(t)*9,True⟩,⟨some 7,24,2,(t)*9+(k)*3,True⟩,⟨some 12,29,5,(t)*3,True⟩] [Uc 0 17 _,Uc 1 18 _,Uc 3 20 _,Uc 4 21 _,Uc 5 22 _,Uc 8 25 _,Uc 9 26 _,Uc 10 27 _,Uc 11 28 _] (.k (.k (.k (.u none [(13,pv _)] (.k .z))))) (.ah (.k .z)) ⟨mv,mv,iA 3 3 t,lV ((t)),mv,mv,iA 3 9 t,iB 3 3 k,lV (3*(t)+(k)),ld,fZ cg,fZ (yJ hb),iA 3 3 t,sJ ((t)),trivial⟩ (.k (.k (.k (.s .o (.d .z))))) (.ah (.d8 (.dd .z))) λa w hI=>?_
   refine aG ?_
   refine ae ?_
   refine qq hI 2 [] [] [Uc 0 30 _,Uc 1 13 _] (.k (.k (.k (.k .z)))) (.bS (.t 1 .z)) ⟨bn,mv,trivial⟩ (.k (.k (.k (.k .z)))) (.cA (.dk .z)) λa w hI=>?_
   refine ae ?_
   have hs1:=MR (n:=3) (m:=3) (f:=Ar m v) (t:=t) (k:=k) (x:=(u5 3 3 (Ar m v) t k).getD t 0+m.getD (3*t+k) 0*v.getD k 0) (by omega) (by rw[KT (by omega)]; rfl)
   exact qR (k+1) (by omega) hI ⟨vc,vc,vc,vC ((cq hs1 (Nat.le_refl _))),trivial⟩ ⟨gc,gc,gc,gc,trivial⟩ (by omega)
  ·
   refine bO ?_
   refine ak ?_
   refine ak ?_
   refine aH ?_
   refine aG ?_
   refine ae ?_
   obtain rfl:k=3:=by omega
   refine qq hI 2 [] [] [Uc 0 31 _,Uc 1 9 _] (.k (.k (.k (.k .z)))) (.t 1 (.ah .z)) ⟨bn,mv,trivial⟩ (.k (.k (.k (.k .z)))) (.bh (.lQ .z)) λa w hI=>?_
   refine ae ?_
   exact qR (t+1) (by omega) hI ⟨vc,vc,vc,vC ((cq (MQ λ_=>rfl) (Nat.le_refl _))),trivial⟩ ⟨gc,trivial⟩ (by omega)
 ·
  refine bO ?_
  refine ak ?_
  refine ak ?_
  refine aH ?_
  refine ae ?_
  obtain rfl:t=3:=by omega
  refine bf hI 2 [] [] [Uc 0 32 _] (.k (.k (.u none [(1,pv _)] (.k .z)))) (.kk .z) ⟨ld,dM,trivial⟩ (.d (.d (.s .o (.d .z)))) (.qy .z) λa w hI=>?_
  refine aL ?_
  exact ck hI rfl (r7 (hq:=cq Qc (Nat.le_refl _)))
def Fl (s v:List Rat):List Rat:=
 [s.getD 0 0*v.getD 0 0+s.getD 1 0*v.getD 1 0+s.getD 2 0*v.getD 2 0,s.getD 1 0*v.getD 0 0+s.getD 0 0*v.getD 1 0-s.getD 2 0*v.getD 2 0,lF*s.getD 2 0*(v.getD 1 0-v.getD 0 0)+(s.getD 0 0-s.getD 1 0)*v.getD 2 0]
theorem Iv {s:List Rat} (h:s.length=3/\v.length=3/\i<=1000000/\j<=4000000):K2 Tryz.prog 124 (pV au i s) (pV au j v) (pV au (4*i+4*j+100) (Fl s v)):=by
 intro M w0 v0 v1 hM hv0 eI
 refine rG (N:=58) Tryz.func124 rfl rfl rfl hM hv0 eI λa hI=>?_
 refine bf hI 3 [⟨2,2,some 0,none,.ptr,186,9,true,pv _,[]⟩,⟨3,3,some 1,none,.ptr,43,9,true,pv _,[]⟩,⟨4,4,some 2,none,.ptr,43,9,true,pv _,[]⟩] [] [] .z (.kk .z) ⟨bo,bo,lE (4*i+4*j+100) 3,trivial⟩ (.k (.k (.k .z))) (.dd .z) λa w hI=>?_
 refine mR hI [0,1,0,4,0,16,0,0,0,451,975,2047] [⟨5,5,some 6,none,.ptr,40,3,true,pv _,[(9,pv _)]⟩,⟨6,6,some 7,none,.ptr,40,3,true,pv _,[(10,pv _)]⟩,⟨7,7,some 8,none,.ptr,40,3,true,pv _,[(11,pv _)]⟩] [⟨some 0,9,3,0,True⟩,⟨some 2,11,3,3,True⟩,⟨some 4,13,3,6,True⟩] [Uc 1 10 _,Uc 3 12 _,Uc 5 14 _] (.k (.k (.k .z))) .z ⟨fa,lV 0,fa,lV 1,fa,lV 2,fB [.r],fB [.r],fB [.r],dM,dM,dM,trivial⟩ (.k (.d (.k (.s .o (.s .o (.s .o .z)))))) (.qy .z) λa w hI=>?_
 refine bf hI 6 [⟨8,8,some 4,none,.ptr,40,3,true,pv _,[(5,pv _)]⟩] [⟨some 0,15,2,6,True⟩] [Uc 1 16 _,Uc 2 17 _,Uc 3 18 _] (.k (.k (.k (.k (.k .z))))) .z ⟨fa,lV 2,ld,fZ cg,fB [.r],dM,trivial⟩ (.k (.k (.k (.k (.k (.s .o .z)))))) (.qy .z) λa w hI=>?_
 refine mR hI [0,1,0,7,0,16,0,127,255,0,1023,0,2048,0,16383,0,32768,0,262143,524287,0,2097151,4194303,0,8388608,33554431,0,0,268435455,536870911,0,1073741824,0,4294967296,17179869183,0,68719476735,137438953471,274877906943,549755813887] [] [⟨some 0,19,2,0,True⟩,⟨some 4,23,2,3,True⟩,⟨some 11,30,2,3,True⟩,⟨some 15,34,2,0,True⟩,⟨some 23,42,2,6,True⟩,⟨some 30,49,2,0,True⟩,⟨some 32,51,2,3,True⟩] [Uc 1 20 _,Uc 2 21 _,Uc 3 22 _,Uc 5 24 _,Uc 6 25 _,Uc 7 26 _,Uc 8 27 _,Uc 9 28 _,Uc 10 29 _,Uc 12 31 _,Uc 13 32 _,Uc 14 33 _,Uc 16 35 _,Uc 17 36 _,Uc 18 37 _,Uc 19 38 _,Uc 20 39 _,Uc 21 40 _,Uc 22 41 _,Uc 24 43 _,Uc 25 44 _,Uc 26 45 _,Uc 27 46 _,Uc 28 47 _,Uc 29 48 _,Uc 31 50 _,Uc 33 52 _,Uc 34 53 _,Uc 35 54 _,Uc 36 55 _,Uc 37 56 _,Uc 38 57 _] (.k (.u none [(39,pv _)] (.k (.k (.k (.k .z)))))) .z ⟨fa,lV 0,ld,fZ cg,fa,lV 1,ld,fZ cg,fZ ow,ld,fZ ow,fa,lV 1,ld,fZ cg,fa,lV 0,ld,fZ cg,fZ ow,ld,fZ sA,mS gT,fa,lV 2,fZ cg,ld,ld,fZ sA,fZ cg,fa,lV 0,fa,lV 1,fZ sA,ld,fZ cg,fZ ow,GR 3 [.o .r,.o .r,.o .r] [(0,_),(1,_),(2,_)],dM,trivial⟩ (.d (.s .o (.d (.d (.d (.d .z)))))) (.d8 (.d8 (.d8 (.d8 .z)))) λa w hI=>?_
 refine aL ?_
 exact ck hI rfl r7
end Wx
