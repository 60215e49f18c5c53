import Derived.Test.YtfnmkhlleanppaaGreatDoorJWF16
namespace Wx
open Go Go.RowKit
abbrev Uc (i s:Nat) (p:Pred):aK:=⟨some i,none,s,p⟩
abbrev Uz (s:Nat) (p:Pred):aK:=⟨none,none,s,p⟩
variable {p q:Pred}
theorem wv (h:∀w v,p w v->q w v:=by
 first
 |exact oK (by omega)
 |exact vp (by omega)
 |exact rM.pV (by repeat' (first|exact rM.z|refine rM.c (by omega) ?_))
 |exact bM (by omega)
 |exactλ_ _ h=>h
 |exact CK rfl (by omega)
 |exact CO rfl (by omega)):∀w v,p w v->q w v:=h
def zj (G:List aK):List aK->Prop
 |[]=>True
 |e::es=>((e.tag=none/\e.till=none)/\∃p:Pred,(eE e.slot G=some p\/∃k:Nat,G[k]?=some ⟨none,none,e.slot,p⟩)/\∀w v,p w v->e.p w v)/\zj G es
variable {G:List aK}
theorem zj.ok:∀{G':List aK},zj G G'->nC G G'
 |[],_=>trivial
 |_::_,⟨⟨⟨h1,h2⟩,p,h3,h4⟩,h5⟩=>⟨⟨h1,h2,(h3.elim (λh3=>iy h3) λh3=>h3).elim λk hk=>⟨k,p,hk,h4⟩⟩,zj.ok h5⟩
def zk (V:List Vr):List Vr->Prop
 |[]=>True
 |x::xs=>(∃p:Rel,pz x.id V=some ⟨x.id,x.slot,none,none,x.kd,x.T,x.n,x.agg,p,[]⟩/\(x.born=none/\x.dead=none/\x.st=[])/\∀F w v,p F w v->x.c0 F w v)/\zk V xs
theorem zk.ok {V:List Vr}:∀{V':List Vr},zk V V'->nE V V'
 |[],_=>trivial
 |_::_,⟨⟨p,h1,h2,h3⟩,h4⟩=>⟨(ei h1).1.elim λk hk=>⟨k,_,p,hk,h2,rfl,h3⟩,zk.ok h4⟩
variable {s:Nat}
theorem gc (h:eE s G=some p:=by exact rfl) (hq:∀w v,p w v->q w v:=by exact wv):((Uz s q).tag=none/\(Uz s q).till=none)/\∃p:Pred,(eE (Uz s q).slot G=some p\/∃k:Nat,G[k]?=some ⟨none,none,(Uz s q).slot,p⟩)/\∀w v,p w v->(Uz s q).p w v:=⟨⟨rfl,rfl⟩,p,.inl h,hq⟩
theorem gC (hq:∀w v,p w v->q w v) (h:eE s G=some p:=by exact rfl):((Uz s q).tag=none/\(Uz s q).till=none)/\∃p:Pred,(eE (Uz s q).slot G=some p\/∃k:Nat,G[k]?=some ⟨none,none,(Uz s q).slot,p⟩)/\∀w v,p w v->(Uz s q).p w v:=⟨⟨rfl,rfl⟩,p,.inl h,hq⟩
theorem gi (h:eE s G=some p:=by exact rfl):((Uz s p).tag=none/\(Uz s p).till=none)/\∃q:Pred,(eE (Uz s p).slot G=some q\/∃k:Nat,G[k]?=some ⟨none,none,(Uz s p).slot,q⟩)/\∀w v,q w v->(Uz s p).p w v:=⟨⟨rfl,rfl⟩,p,.inl h,λ_ _ h=>h⟩
abbrev Vz (i s:Nat) (T:TypeId) (n:Nat) (ag:Bool) (p:Pred):Vr:=⟨i,s,none,none,.ptr,T,n,ag,pv p,[]⟩
section
variable {P:Program} {w:World} {fn:Func}
end
section
variable {P:Program} {Q:Exit->Act->World->Prop} {c:bO} {V:List Vr} {G:List aK} {a:Act} {w:World} {fn:Func}
theorem Inv.cv {V':List Vr} {G':List aK} (h:Inv c V [] G none_ a w) (hV:zk V V') (hG:zj G G'):Inv c V' [] G' none_ a w:=h.conv hV.ok hG.ok
theorem pq {ι:Type} {V1:ι->List Vr} {G1:ι->List aK} {φ:ι->Prop} {μ:ι->Nat} {k:ι} (k':ι) (h:φ k') (hI:Inv c V [] G none_ a w) (hV:zk V (V1 k')) (hG:zj G (G1 k')) (hm:μ k'<μ k):∃k',(φ k'/\Inv c (V1 k') [] (G1 k') none_ a w)/\μ k'<μ k:=⟨k',⟨h,hI.cv hV hG⟩,hm⟩
variable {p q:Pred}
theorem rt {s:Nat} (hq:∀w v,q w v->p w v) (h:eE s G=some q:=by exact rfl):cy P V G (.tmp s) p:=(iy h).elim λk hk=>.imp (.tmp k hk) hq
theorem f1 {r:ResultVar} (hI:Inv c V [] G none_ a w) (h:cy P V G r p:=by exact rt wv) (hr:fn.results=#[r]:=by exact rfl) (hn:∀k,¬c.de k:=by exactλ_ h=>h):bodyPost P fn (bX c.M0 p c.w0) .ret a w:=cu hI hr h hn
variable {r1 r2:ResultVar}
theorem f2 (hI:Inv c V [] G none_ a w) (h1:cy P V G r1 p:=by exact rt wv) (h2:cy P V G r2 q:=by exact rt wv) (hr:fn.results=#[r1,r2]:=by exact rfl) (hn:∀k,¬c.de k:=by exactλ_ h=>h):bodyPost P fn (bX c.M0 (cS p q) c.w0) .ret a w:=gq hI hr h1 h2 hn
theorem f3 {r3:ResultVar} {r:Pred} (hI:Inv c V [] G none_ a w) (h1:cy P V G r1 p:=by exact rt wv) (h2:cy P V G r2 q:=by exact rt wv) (h3:cy P V G r3 r:=by exact rt wv) (hr:fn.results=#[r1,r2,r3]:=by exact rfl) (hn:∀k,¬c.de k:=by exactλ_ h=>h):bodyPost P fn (bX c.M0 (oM p q r) c.w0) .ret a w:=DN hI hr h1 h2 h3 hn
end
end Wx

namespace Wx
open Go Go.RowKit
theorem Post.down {G:List aK} {i:Nat} {p q:Pred} (h:Post G i q) (hq:∀w v,p w v->q w v):Post G i p:=by
 cases h with
 |at_ k s r h hr=>exact .at_ k s r h λw v hp=>hr w v (hq w v hp)
 |none h=>exact .none h
section
variable {P:Program} {ops:Array Oper} {ms:List Nat} {c:bO} {V:List Vr} {A:List Al} {G:List aK} {i:Nat}{d:Nat} {x y z:Operand} {ty:TypeId} {pos:String} {ax:Array Edge}
end
end Wx

namespace Wx
open Go Go.RowKit
section
variable {P:Program} {ops:Array Oper} {ms:List Nat} {c:bO} {V:List Vr} {A:List Al} {G:List aK} {i:Nat}{d:Nat} {x y z:Operand} {ty:TypeId} {pos:String} {ax:Array Edge}
end
section
variable {c:bO} {V:List Vr} {A:List Al} {G:List aK} {a:Act} {w:World}
end
section
variable {P:Program} {ops:Array Oper} {ms:List Nat} {c:bO} {V:List Vr} {A:List Al} {G:List aK} {i:Nat}{d:Nat} {x y z:Operand} {ty:TypeId} {pos:String} {ax:Array Edge}
end
section
variable {F:Rat->Pred} {j k:Nat} {l:List Rat}
end
section
variable {P:Program} {ops:Array Oper} {ms:List Nat} {c:bO} {V:List Vr} {A:List Al} {G:List aK} {i:Nat}{d:Nat} {x y z:Operand} {ty:TypeId} {pos:String} {ax:Array Edge}
end
section
variable {P:Program} {ops:Array Oper} {ms:List Nat} {c:bO} {V:List Vr} {A:List Al} {G:List aK} {i:Nat}{d:Nat} {ty:TypeId} {pos:String} {ax:Array Edge}
theorem pc {f:FuncId} {fx x:Operand} {ts:Array TypeId} {p p1 q1:Pred} {φ:Prop} (eR:φ->∀M w v1,da M w->aN M (λw=>p1 w v1) w->Calls P f #[v1] w (bX M p w)) (hx:Has ms G i fx (aL (.func (.func f) #[] #[])):=by exact hs) (h1:Has ms G i x q1:=by exact hs) (c1:∀w v,q1 w v->p1 w v:=by exact ic) (hp:Post G i p:=by exact pt rfl) (hφ:φ:=by first|omega|trivial) (hf:aC P f:=by exactλ_ _=>by kernel_rfl):
  OpOk P ops ms c V A G i ⟨some d,.call ⟨.value fx,#[x],ts⟩,ty,pos,ax,none⟩:=
 uT hf hx hp λ_ _ a w hI hd=>(by
  rw[show(#[x]:Array Operand).map a.eval=#[a.eval x] by simp]
  exact eR hφ _ w _ (aM hI) ((h1.imp c1).spec hI hd))
end
end Wx

namespace Wx
open Go Go.RowKit
section
variable {P:Program} {ops:Array Oper} {ms:List Nat} {c:bO} {V:List Vr} {A:List Al} {G:List aK} {i:Nat}{d:Nat} {x y z:Operand} {ty:TypeId} {pos:String} {ax:Array Edge}{T:TypeId} {n:Nat} {p:Pred}
theorem xy {ag:Bool} (hnb:(V.all λx=>x.born != some i&&x.dead != some i)=true) (h:Has ms G i x p) (hf:Fits n ag p) (hp:Post G i (cV n ag p)):
  OpOk P ops ms c V A G i ⟨some d,.box T x,ty,pos,ax,none⟩:=
 jM rfl (λ_=>qd hnb) rfl (.inl rfl) hp λL β a w hI hd=>by
  have hq:=h.spec hI hd
  obtain⟨cs,e,hl,hcells,h1⟩:=hf w _ hq.out
  have hb:Below w.heap.size w (w.alloc (.cells cs.toArray T)):=Below.alloc (Below.refl _ _) (Nat.le_refl _) _
  refine⟨.pointer (some ⟨w.heap.size,0,none⟩),w.alloc (.cells cs.toArray T),?_,hb,λw' he=>?_⟩
  ·show(do pure (Next.value (<-Instr.box T (a.eval x)))).run P w=_
   simp only[Instr.box,newVar,newRow,hcells]
   rfl
  ·have hgt:w'.heap[w.heap.size]?=some (.cells cs.toArray T (0,0)):=by
    rw[he.block w.heap.size (by simp) (λo h=>by have:=gV hI h; omega)]
    exact heap_alloc_new _ _
   have k:=hq w' ((Ext.aX hb).trans he)
   rw[e]at k
   refine⟨w.heap.size,0,cs,rfl,hl,λj u hj=>?_,k⟩
   simp only[World.cell?,hgt,Nat.zero_add]
   simpa using hj
theorem EP (n:Nat) (ag:Bool) (h:Has ms G i x p:=by exact hs) (hf:Fits n ag p:=by exact tR) (hp:Post G i (cV n ag p):=by exact pt rfl) (hnb:(V.all λx=>x.born != some i&&x.dead != some i)=true:=by kernel_rfl):
  OpOk P ops ms c V A G i ⟨some d,.box T x,ty,pos,ax,none⟩:=xy hnb h hf hp
variable {sz b o:Nat}
theorem nk {P:Program} (h:zw P T n sz=true) (w:World):(Instr.sliceAt T (.pointer (some ⟨b,o,none⟩)) none none none).run P w=.ok (.slice (some ⟨b,o,none⟩) n n) w:=by
 unfold zw at h
 split at h
 ·rename_i m E hE
  rw[Bool.and_eq_true]at h
  have e:=Nat.eq_of_beq_eq_true h.1
  subst e
  have hu:(underlying T).run P w=.ok (.array m E) w:=run_underlying hE w
  have hz:(Go.sizeOf E).run P w=.ok sz w:=jP h.2 w
  simp only[Instr.sliceAt,Sem.run_bind,hu,Result.andThen_ok,Instr.sureAddr,Instr.sliceBounds,pure_bind,Sem.run_pure,hz,Nat.sub_zero]
  by_cases hm:m=0
  ·rw[if_pos hm]
  ·rw[if_neg hm,Nat.zero_mul]; rfl
 ·cases h
theorem oO {M:Nat->Nat->Prop} {w w':World} {off:Nat} {q:Pred} {v:Value} (he:Ext M w w') (h:aN M (λw=>cV sz true p w v) w) (e:v=.pointer (some ⟨b,o,none⟩)) (hq:∀w cs,cs.length=sz->p w (ai true cs)->q w (ai true ((cs.drop off).take n))) (hle:off+n<=sz):cV n true q w' (.pointer (some ⟨b,o+off,none⟩)):=by
 obtain⟨b',o',cs,e',hl,hc,hp'⟩:=h w' he
 rw[e]at e'
 cases e'
 refine⟨b,o+off,(cs.drop off).take n,rfl,by rw[List.length_take,List.length_drop]; omega,λj u hj=>?_,hq w' cs hl hp'⟩
 rw[List.getElem?_take]at hj
 split at hj
 ·rw[List.getElem?_drop]at hj
  have:=hc _ _ hj
  rwa [Nat.add_assoc]
 ·cases hj
theorem dS {agg:Bool} {f g:Nat->Pred} (h:∀k,k<n->∀w v,f k w v->g k w v):∀w v,az sz agg n f w v->az sz agg n g w v:=λ_ _ ⟨A,cap,e,h1,h2,h3⟩=>⟨A,cap,e,h1,h2,λh0=>(h3 h0).elim λb h4=>h4.elim λo h5=>⟨b,o,h5.1,λi hi=>(h5.2 i hi).elim λcs h6=>⟨cs,h6.1,h6.2.1,h i hi _ _ h6.2.2⟩⟩⟩
theorem pU {f:FuncId} {x y:Operand} {ts:Array TypeId} {p1 p2 q1 q2:Pred} {φ ψ:Prop} (hψ:ψ) (eR:φ->∀M w v1 v2,da M w->aN M (λw=>p1 w v1) w->aN M (λw=>p2 w v2) w->Calls P f #[v1,v2] w (bX M p w)) (h1:Has ms G i x q1:=by exact hg) (c1:∀w v,q1 w v->p1 w v:=by exact ic) (h2:Has ms G i y q2:=by exact hg) (c2:∀w v,q2 w v->p2 w v:=by exact ic) (hp:Post G i p:=by exact pg (by assumption) rfl) (hφ:φ:=by first|omega|trivial) (hf:aC P f:=by exactλ_ _=>by kernel_rfl):
  OpOk P ops ms c V A G i ⟨some d,.call ⟨.value (.func f),#[x,y],ts⟩,ty,pos,ax,none⟩:=(λ_:ψ=>lX hf (h1.imp c1) (h2.imp c2) hp (eR hφ)) hψ
end
end Wx
