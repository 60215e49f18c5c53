import Derived.Test.YtfnmkhlleanppaaGreatDoorJWN16
namespace Wx
open Go Go.RowKit
abbrev Uc (i s:Nat) (p:Pred):aD:=⟨some i,none,s,p⟩
abbrev Uz (s:Nat) (p:Pred):aD:=⟨none,none,s,p⟩
variable {p q:Pred}
theorem ue (h:∀w v,p w v->q w v:=by
 first
 |exact ng (by omega)
 |exact tg (by omega)
 |exact pM.pV (by repeat' (first|exact pM.z|refine pM.c (by omega) ?_))
 |exact fh (by omega)
 |exactλ_ _ h=>h
 |exact Ay rfl (by omega)
 |exact AD rfl (by omega)):∀w v,p w v->q w v:=h
def wF (G:List aD):List aD->Prop
 |[]=>True
 |e::es=>((e.tag=none/\e.till=none)/\∃p:Pred,(dL e.slot G=some p\/∃k:Nat,G[k]?=some ⟨none,none,e.slot,p⟩)/\∀w v,p w v->e.p w v)/\wF G es
variable {G:List aD}
theorem wF.ok:∀{G':List aD},wF G G'->lU G G'
 |[],_=>trivial
 |_::_,⟨⟨⟨h1,h2⟩,p,h3,h4⟩,h5⟩=>⟨⟨h1,h2,(h3.elim (λh3=>gy h3) λh3=>h3).elim λk hk=>⟨k,p,hk,h4⟩⟩,wF.ok h5⟩
def wG (V:List Vr):List Vr->Prop
 |[]=>True
 |x::xs=>(∃p:Rel,lK x.id V=some ⟨x.id,x.slot,none,none,x.kd,x.T,x.n,x.agg,p,[]⟩/\(x.born=none/\x.dead=none/\x.st=[])/\∀F w v,p F w v->x.c0 F w v)/\wG V xs
theorem wG.ok {V:List Vr}:∀{V':List Vr},wG V V'->lW V V'
 |[],_=>trivial
 |_::_,⟨⟨p,h1,h2,h3⟩,h4⟩=>⟨(cf h1).1.elim λk hk=>⟨k,_,p,hk,h2,rfl,h3⟩,wG.ok h4⟩
variable {s:Nat}
theorem gc (h:dL s G=some p:=by exact rfl) (hq:∀w v,p w v->q w v:=by exact ue):((Uz s q).tag=none/\(Uz s q).till=none)/\∃p:Pred,(dL (Uz s q).slot G=some p\/∃k:Nat,G[k]?=some ⟨none,none,(Uz s q).slot,p⟩)/\∀w v,p w v->(Uz s q).p w v:=⟨⟨rfl,rfl⟩,p,.inl h,hq⟩
theorem gC (hq:∀w v,p w v->q w v) (h:dL s G=some p:=by exact rfl):((Uz s q).tag=none/\(Uz s q).till=none)/\∃p:Pred,(dL (Uz s q).slot G=some p\/∃k:Nat,G[k]?=some ⟨none,none,(Uz s q).slot,p⟩)/\∀w v,p w v->(Uz s q).p w v:=⟨⟨rfl,rfl⟩,p,.inl h,hq⟩
theorem gi (h:dL s G=some p:=by exact rfl):((Uz s p).tag=none/\(Uz s p).till=none)/\∃q:Pred,(dL (Uz s p).slot G=some q\/∃k:Nat,G[k]?=some ⟨none,none,(Uz s p).slot,q⟩)/\∀w v,q w v->(Uz s p).p w v:=⟨⟨rfl,rfl⟩,p,.inl h,λ_ _ h=>h⟩
abbrev Vz (i s:Nat) (T:TypeId) (n:Nat) (ag:Bool) (p:Pred):Vr:=⟨i,s,none,none,.ptr,T,n,ag,pv p,[]⟩
section
variable {P:Program} {w:World} {fn:Func}
end
section
variable {P:Program} {Q:Exit->Act->World->Prop} {c:bD} {V:List Vr} {G:List aD} {a:Act} {w:World} {fn:Func}
theorem Inv.cv {V':List Vr} {G':List aD} (h:Inv c V [] G none_ a w) (hV:wG V V') (hG:wF G G'):Inv c V' [] G' none_ a w:=h.conv hV.ok hG.ok
theorem xU {ι:Type} {V1:ι->List Vr} {G1:ι->List aD} {φ:ι->Prop} {μ:ι->Nat} {k:ι} (k':ι) (h:φ k') (hI:Inv c V [] G none_ a w) (hV:wG V (V1 k')) (hG:wF G (G1 k')) (hm:μ k'<μ k):∃k',(φ k'/\Inv c (V1 k') [] (G1 k') none_ a w)/\μ k'<μ k:=⟨k',⟨h,hI.cv hV hG⟩,hm⟩
variable {p q:Pred}
theorem rt {s:Nat} (hq:∀w v,q w v->p w v) (h:dL s G=some q:=by exact rfl):bS P V G (.tmp s) p:=(gy h).elim λk hk=>.imp (.tmp k hk) hq
theorem f1 {r:ResultVar} (hI:Inv c V [] G none_ a w) (h:bS P V G r p:=by exact rt ue) (hr:fn.results=#[r]:=by exact rfl) (hn:∀k,¬c.cU k:=by exactλ_ h=>h):bodyPost P fn (bK c.M0 p c.w0) .ret a w:=bP hI hr h hn
variable {r1 r2:ResultVar}
theorem f2 (hI:Inv c V [] G none_ a w) (h1:bS P V G r1 p:=by exact rt ue) (h2:bS P V G r2 q:=by exact rt ue) (hr:fn.results=#[r1,r2]:=by exact rfl) (hn:∀k,¬c.cU k:=by exactλ_ h=>h):bodyPost P fn (bK c.M0 (cG p q) c.w0) .ret a w:=mj hI hr h1 h2 hn
theorem f3 {r3:ResultVar} {r:Pred} (hI:Inv c V [] G none_ a w) (h1:bS P V G r1 p:=by exact rt ue) (h2:bS P V G r2 q:=by exact rt ue) (h3:bS P V G r3 r:=by exact rt ue) (hr:fn.results=#[r1,r2,r3]:=by exact rfl) (hn:∀k,¬c.cU k:=by exactλ_ h=>h):bodyPost P fn (bK c.M0 (kq p q r) c.w0) .ret a w:=zC hI hr h1 h2 h3 hn
end
end Wx

namespace Wx
open Go Go.RowKit
inductive Zf
 |o (z:Zl)
 |m (l:List Zl)
def Zf.cs:Zf->List Value
 |.o z=>z.cs
 |.m l=>l.flatMap Zl.cs
def Zf.fd:Zf->Fd
 |.o z=>z.fd
 |.m l=>⟨true,(l.flatMap Zl.cs).length,pS (l.map Zl.fd)⟩
def Zf.size:Zf->Nat
 |.o .r|.o .f=>3
 |.o _=>1
 |.m l=>(l.flatMap Zl.cs).length
theorem AV (w:World):∀l:List Zf,av (l.map Zf.fd) w (l.flatMap Zf.cs):=by
 intro l
 induction l with
 |nil=>rfl
 |cons z l ih=>
  cases z with
  |o z=>
   have h:=wE w [z]
   obtain⟨h1,h2,h3⟩:=h
   simp only[List.flatMap_cons,List.flatMap_nil,List.append_nil]at h1 h2 h3
   have h3:(Zl.cs z).drop (Zl.fd z).n=[]:=h3
   have e:(Zl.cs z).length=(Zl.fd z).n:=by cases z<;>rfl
   refine⟨?_,?_,?_⟩
   ·show(Zl.fd z).n<=(Zl.cs z++l.flatMap Zf.cs).length; rw[List.length_append]; omega
   ·show(Zl.fd z).p w (ae (Zl.fd z).agg ((Zl.cs z++l.flatMap Zf.cs).take (Zl.fd z).n))
    rw[List.take_append_of_le_length (by omega)]; exact h2
   ·show av (l.map Zf.fd) w ((Zl.cs z++l.flatMap Zf.cs).drop (Zl.fd z).n)
    rw[List.drop_append_of_le_length (by omega),h3]; exact ih
  |m zs=>
   refine⟨?_,?_,?_⟩
   ·show(zs.flatMap Zl.cs).length<=(zs.flatMap Zl.cs++l.flatMap Zf.cs).length; rw[List.length_append]; omega
   ·show pS (zs.map Zl.fd) w (ae true ((zs.flatMap Zl.cs++l.flatMap Zf.cs).take (zs.flatMap Zl.cs).length))
    rw[List.take_left']
    ·exact tP zs w
    ·rfl
   ·show av (l.map Zf.fd) w ((zs.flatMap Zl.cs++l.flatMap Zf.cs).drop (zs.flatMap Zl.cs).length)
    rw[List.drop_left']
    ·exact ih
    ·rfl
def Cq:Nat->List Zf->List (Nat×Nat)
 |_,[]=>[]
 |o,z::l=>(o,z.size)::Cq (o+z.size) l
inductive dX:List Fd->List Fd->Prop
 |z:dX [] []
 |k {f:Fd} {fs hs:List Fd}:dX fs hs->dX (f::fs) (f::hs)
 |m {n:Nat} {gs fs hs r:List Fd}:dX fs hs->mg gs (some hs)=some r->dX (⟨true,n,pS gs⟩::fs) r
variable {fs hs:List Fd}
theorem dX.ok (h:dX fs hs):∀{w:World} {cs:List Value},av fs w cs->av hs w cs:=by
 induction h with
 |z=>exactλh=>h
 |k _ ih=>exact λ⟨h1,h2,h3⟩=>⟨h1,h2,ih h3⟩
 |m _ hc ih=>
  rintro w cs ⟨h1,⟨ds,e,h2⟩,h3⟩
  have e:=bO (show ae true (cs.take _)=ae true ds from e)
  subst e
  have:=kP hc h2 (ih h3)
  rwa [List.take_append_drop]at this
theorem dX.pS (h:dX fs hs):∀w v,Wx.pS fs w v->Wx.pS hs w v:=λ_ _ ⟨cs,e,hc⟩=>⟨cs,e,h.ok hc⟩
theorem Post.down {G:List aD} {i:Nat} {p q:Pred} (h:Post G i q) (hq:∀w v,p w v->q w v):Post G i p:=by
 cases h with
 |at_ k s r h hr=>exact .at_ k s r h λw v hp=>hr w v (hq w v hp)
 |none h=>exact .none h
section
variable {P:Program} {ops:Array Oper} {ms:List Nat} {c:bD} {V:List Vr} {A:List Al} {G:List aD} {i:Nat}{d:Nat} {x y z:Operand} {ty:TypeId} {pos:String} {aj:Array Edge}
def C3 (fs:List Fd) (pf:Nat->Option (Nat×Nat)):Bool:=(List.range fs.length).all λk=>match fs[k]? with
 |some f=>pf k==some (aO fs k,f.n)
 |none=>true
variable {fs:List Fd} {pf:Nat->Option (Nat×Nat)}
theorem yw (h:C3 fs pf=true):∀(k:Nat) (f:Fd),fs[k]?=some f->pf k=some (aO fs k,f.n):=by
 intro k f hk
 have hlt:k<fs.length:=by
  rcases Nat.lt_or_ge k fs.length with h'|h'
  ·exact h'
  ·rw[List.getElem?_eq_none h']at hk; cases hk
 have:=List.all_eq_true.1 h k (List.mem_range.2 hlt)
 rw[hk]at this
 simpa using this
variable {T:TypeId} {parts:Array (Nat×Operand)} {gs:List Fd}
theorem qq {z:List Value} {ps:List (Nat×Pred)} (ht:∀parts,P.built T parts=Instr.fill pf z.toArray parts) (tV:∀(k:Nat) (f:Fd),fs[k]?=some f->pf k=some (aO fs k,f.n)) (hz:∀w,av fs w z)
  (hps:bw ms G i fs parts.toList ps) (hg:gU fs ps=gs) (hp:Post G i (pS gs)):
  OpOk P ops ms c V A G i ⟨some d,.build T parts,ty,pos,aj,none⟩:=
 bu rfl rfl rfl (.inl rfl) hp λL β a w hI hd=>by
  have key:∀(xs:List (Nat×Operand)) (ps:List (Nat×Pred)),bw ms G i fs xs ps->aL (own c V L β) (λw=>gl fs w (xs.map λq=>(q.1,a.eval q.2)) ps) w:=by
   intro xs
   induction xs with
   |nil=>intro ps h; cases ps<;>exactλ_ _=>h
   |cons q xs ih=>
    intro ps h
    obtain⟨j,x⟩:=q
    cases ps with
    |nil=>exact h.elim
    |cons r ps=>
     obtain⟨k,p⟩:=r
     obtain⟨⟨e,h1,h2⟩,h3⟩:=h
     exactλw' he=>⟨⟨e,h1.spec hI hd w' he,h2⟩,ih ps h3 w' he⟩
  have hb:=key _ _ hps
  obtain⟨cs',h1,h2,h3⟩:=kS (pl:=pf) _ _ fs z tV (hz w) hb.out
  refine⟨.agg cs'.toArray,w,?_,Below.refl _ _,λw' he=>?_⟩
  ·show(do pure (Next.value (<-Instr.build T (parts.map λ(i,x)=>(i,a.eval x))))).run P w=_
   have e:(parts.map λ(i,x)=>(i,a.eval x)).toList=parts.toList.map λq=>(q.1,a.eval q.2):=by simp
   rw[Sem.run_bind,run_build w T _ cs'.toArray (by rw[e,ht]; exact h1)]
   rfl
  ·rw[<-hg]
   exact wv (h3 w' (hz w') (hb w' he))
theorem bd {hs:List Fd} (l:List Zf) (ps:List (Nat×Pred)) (hps:bw ms G i (l.map Zf.fd) parts.toList ps:=by repeat' (first|exact trivial|refine⟨⟨rfl,Wx.hs,_,rfl,qa⟩,?_⟩))
  (hg:gU (l.map Zf.fd) ps=gs:=by exact rfl) (hF:dX gs hs:=by repeat' (first|exact dX.z|exact rfl|apply dX.m|apply dX.k)) (hp:Post G i (pS hs):=by exact pt rfl) (ht:∀parts,P.built T parts=Instr.fill (λi=>(Cq 0 l).toArray[i]?) (l.flatMap Zf.cs).toArray parts:=by(intro parts; kernel_rfl)) (tV:C3 (l.map Zf.fd) (λi=>(Cq 0 l).toArray[i]?)=true:=by kernel_rfl):
  OpOk P ops ms c V A G i ⟨some d,.build T parts,ty,pos,aj,none⟩:=
 qq ht (yw tV) (λw=>AV w l) hps hg (hp.down hF.pS)
end
end Wx

namespace Wx
open Go Go.RowKit
section
variable {P:Program} {ops:Array Oper} {ms:List Nat} {c:bD} {V:List Vr} {A:List Al} {G:List aD} {i:Nat}{d:Nat} {x y z:Operand} {ty:TypeId} {pos:String} {aj:Array Edge}
end
section
variable {c:bD} {V:List Vr} {A:List Al} {G:List aD} {a:Act} {w:World}
end
section
variable {P:Program} {ops:Array Oper} {ms:List Nat} {c:bD} {V:List Vr} {A:List Al} {G:List aD} {i:Nat}{d:Nat} {x y z:Operand} {ty:TypeId} {pos:String} {aj:Array Edge}
end
section
variable {F:Rat->Pred} {j k:Nat} {l:List Rat}
end
section
variable {P:Program} {ops:Array Oper} {ms:List Nat} {c:bD} {V:List Vr} {A:List Al} {G:List aD} {i:Nat}{d:Nat} {x y z:Operand} {ty:TypeId} {pos:String} {aj:Array Edge}
end
section
variable {P:Program} {ops:Array Oper} {ms:List Nat} {c:bD} {V:List Vr} {A:List Al} {G:List aD} {i:Nat}{d:Nat} {ty:TypeId} {pos:String} {aj:Array Edge}
theorem nD {f:FuncId} {fx x:Operand} {ts:Array TypeId} {p p1 q1:Pred} {φ:Prop} (dS:φ->∀M w v1,cQ M w->aL M (λw=>p1 w v1) w->Calls P f #[v1] w (bK M p w)) (hx:Has ms G i fx (aE (.func (.func f) #[] #[])):=by exact hs) (h1:Has ms G i x q1:=by exact hs) (c1:∀w v,q1 w v->p1 w v:=by exact gh) (hp:Post G i p:=by exact pt rfl) (hφ:φ:=by first|omega|trivial) (hf:ax P f:=by exactλ_ _=>by kernel_rfl):
  OpOk P ops ms c V A G i ⟨some d,.call ⟨.value fx,#[x],ts⟩,ty,pos,aj,none⟩:=
 sP hf hx hp λ_ _ a w hI hd=>(by
  rw[show(#[x]:Array Operand).map a.eval=#[a.eval x] by simp]
  exact dS hφ _ w _ (aF hI) ((h1.imp c1).spec hI hd))
end
end Wx

namespace Wx
open Go Go.RowKit
section
variable {P:Program} {ops:Array Oper} {ms:List Nat} {c:bD} {V:List Vr} {A:List Al} {G:List aD} {i:Nat}{d:Nat} {x y z:Operand} {ty:TypeId} {pos:String} {aj:Array Edge}{T:TypeId} {n:Nat} {p:Pred}
theorem uY {ag:Bool} (hnb:(V.all λx=>x.born != some i&&x.dead != some i)=true) (h:Has ms G i x p) (hf:Fits n ag p) (hp:Post G i (cH n ag p)):
  OpOk P ops ms c V A G i ⟨some d,.box T x,ty,pos,aj,none⟩:=
 iR rfl (λ_=>oo hnb) rfl (.inl rfl) hp λL β a w hI hd=>by
  have hq:=h.spec hI hd
  obtain⟨cs,e,hl,hcells,h1⟩:=hf w _ hq.out
  have hb:Below w.heap.size w (w.alloc (.cells cs.toArray T)):=Below.alloc (Below.refl _ _) (Nat.le_refl _) _
  refine⟨.pointer (some ⟨w.heap.size,0,none⟩),w.alloc (.cells cs.toArray T),?_,hb,λw' he=>?_⟩
  ·show(do pure (Next.value (<-Instr.box T (a.eval x)))).run P w=_
   simp only[Instr.box,newVar,newRow,hcells]
   rfl
  ·have hgt:w'.heap[w.heap.size]?=some (.cells cs.toArray T (0,0)):=by
    rw[he.block w.heap.size (by simp) (λo h=>by have:=iv hI h; omega)]
    exact heap_alloc_new _ _
   have k:=hq w' ((Ext.bC hb).trans he)
   rw[e]at k
   refine⟨w.heap.size,0,cs,rfl,hl,λj u hj=>?_,k⟩
   simp only[World.cell?,hgt,Nat.zero_add]
   simpa using hj
theorem CF (n:Nat) (ag:Bool) (h:Has ms G i x p:=by exact hs) (hf:Fits n ag p:=by exact qa) (hp:Post G i (cH n ag p):=by exact pt rfl) (hnb:(V.all λx=>x.born != some i&&x.dead != some i)=true:=by kernel_rfl):
  OpOk P ops ms c V A G i ⟨some d,.box T x,ty,pos,aj,none⟩:=uY hnb h hf hp
variable {sz b o:Nat}
theorem lI {P:Program} (h:wP P T n sz=true) (w:World):(Instr.sliceAt T (.pointer (some ⟨b,o,none⟩)) none none none).run P w=.ok (.slice (some ⟨b,o,none⟩) n n) w:=by
 unfold wP at h
 split at h
 ·rename_i m E hE
  rw[Bool.and_eq_true]at h
  have e:=Nat.eq_of_beq_eq_true h.1
  subst e
  have hu:(underlying T).run P w=.ok (.array m E) w:=run_underlying hE w
  have hz:(Go.sizeOf E).run P w=.ok sz w:=iT h.2 w
  simp only[Instr.sliceAt,Sem.run_bind,hu,Result.andThen_ok,Instr.sureAddr,Instr.sliceBounds,pure_bind,Sem.run_pure,hz,Nat.sub_zero]
  by_cases hm:m=0
  ·rw[if_pos hm]
  ·rw[if_neg hm,Nat.zero_mul]; rfl
 ·cases h
theorem ni {M:Nat->Nat->Prop} {w w':World} {off:Nat} {q:Pred} {v:Value} (he:Ext M w w') (h:aL M (λw=>cH sz true p w v) w) (e:v=.pointer (some ⟨b,o,none⟩)) (hq:∀w cs,cs.length=sz->p w (ae true cs)->q w (ae true ((cs.drop off).take n))) (hle:off+n<=sz):cH n true q w' (.pointer (some ⟨b,o+off,none⟩)):=by
 obtain⟨b',o',cs,e',hl,hc,hp'⟩:=h w' he
 rw[e]at e'
 cases e'
 refine⟨b,o+off,(cs.drop off).take n,rfl,by rw[List.length_take,List.length_drop]; omega,λj u hj=>?_,hq w' cs hl hp'⟩
 rw[List.getElem?_take]at hj
 split at hj
 ·rw[List.getElem?_drop]at hj
  have:=hc _ _ hj
  rwa [Nat.add_assoc]
 ·cases hj
theorem jy {agg:Bool} {f g:Nat->Pred} (h:∀k,k<n->∀w v,f k w v->g k w v):∀w v,aK sz agg n f w v->aK sz agg n g w v:=λ_ _ ⟨A,cap,e,h1,h2,h3⟩=>⟨A,cap,e,h1,h2,λh0=>(h3 h0).elim λb h4=>h4.elim λo h5=>⟨b,o,h5.1,λi hi=>(h5.2 i hi).elim λcs h6=>⟨cs,h6.1,h6.2.1,h i hi _ _ h6.2.2⟩⟩⟩
theorem nR {f:FuncId} {x y:Operand} {ts:Array TypeId} {p1 p2 q1 q2:Pred} {φ ψ:Prop} (hψ:ψ) (dS:φ->∀M w v1 v2,cQ M w->aL M (λw=>p1 w v1) w->aL M (λw=>p2 w v2) w->Calls P f #[v1,v2] w (bK M p w)) (h1:Has ms G i x q1:=by exact hg) (c1:∀w v,q1 w v->p1 w v:=by exact gh) (h2:Has ms G i y q2:=by exact hg) (c2:∀w v,q2 w v->p2 w v:=by exact gh) (hp:Post G i p:=by exact pg (by assumption) rfl) (hφ:φ:=by first|omega|trivial) (hf:ax P f:=by exactλ_ _=>by kernel_rfl):
  OpOk P ops ms c V A G i ⟨some d,.call ⟨.value (.func f),#[x,y],ts⟩,ty,pos,aj,none⟩:=(λ_:ψ=>kp hf (h1.imp c1) (h2.imp c2) hp (dS hφ)) hψ
end
end Wx
