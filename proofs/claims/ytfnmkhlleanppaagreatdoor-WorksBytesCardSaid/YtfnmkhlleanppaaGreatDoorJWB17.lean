import Derived.Test.YtfnmkhlleanppaaGreatDoorJWB16
namespace Wx
open Go Go.RowKit
abbrev Uc (i s:Nat) (p:Pred):aI:=⟨some i,none,s,p⟩
abbrev Uz (s:Nat) (p:Pred):aI:=⟨none,none,s,p⟩
variable {p q:Pred}
theorem wC (h:∀w v,p w v->q w v:=by
 first
 |exact oW (by omega)
 |exact vB (by omega)
 |exact rV.pV (by repeat' (first|exact rV.z|refine rV.c (by omega) ?_))
 |exact bV (by omega)
 |exactλ_ _ h=>h
 |exact CP rfl (by omega)
 |exact CU rfl (by omega)):∀w v,p w v->q w v:=h
def ym (G:List aI):List aI->Prop
 |[]=>True
 |e::es=>((e.tag=none/\e.till=none)/\∃p:Pred,(eO e.slot G=some p\/∃k:Nat,G[k]?=some ⟨none,none,e.slot,p⟩)/\∀w v,p w v->e.p w v)/\ym G es
variable {G:List aI}
theorem ym.ok:∀{G':List aI},ym G G'->nM G G'
 |[],_=>trivial
 |_::_,⟨⟨⟨h1,h2⟩,p,h3,h4⟩,h5⟩=>⟨⟨h1,h2,(h3.elim (λh3=>iz h3) λh3=>h3).elim λk hk=>⟨k,p,hk,h4⟩⟩,ym.ok h5⟩
def yn (V:List Vr):List Vr->Prop
 |[]=>True
 |x::xs=>(∃p:Rel,pC x.id V=some ⟨x.id,x.slot,none,none,x.kd,x.T,x.n,x.agg,p,[]⟩/\(x.born=none/\x.dead=none/\x.st=[])/\∀F w v,p F w v->x.c0 F w v)/\yn V xs
theorem yn.ok {V:List Vr}:∀{V':List Vr},yn V V'->nO V V'
 |[],_=>trivial
 |_::_,⟨⟨p,h1,h2,h3⟩,h4⟩=>⟨(dW h1).1.elim λk hk=>⟨k,_,p,hk,h2,rfl,h3⟩,yn.ok h4⟩
variable {s:Nat}
theorem gc (h:eO s G=some p:=by exact rfl) (hq:∀w v,p w v->q w v:=by exact wC):((Uz s q).tag=none/\(Uz s q).till=none)/\∃p:Pred,(eO (Uz s q).slot G=some p\/∃k:Nat,G[k]?=some ⟨none,none,(Uz s q).slot,p⟩)/\∀w v,p w v->(Uz s q).p w v:=⟨⟨rfl,rfl⟩,p,.inl h,hq⟩
theorem gC (hq:∀w v,p w v->q w v) (h:eO s G=some p:=by exact rfl):((Uz s q).tag=none/\(Uz s q).till=none)/\∃p:Pred,(eO (Uz s q).slot G=some p\/∃k:Nat,G[k]?=some ⟨none,none,(Uz s q).slot,p⟩)/\∀w v,p w v->(Uz s q).p w v:=⟨⟨rfl,rfl⟩,p,.inl h,hq⟩
theorem gi (h:eO s G=some p:=by exact rfl):((Uz s p).tag=none/\(Uz s p).till=none)/\∃q:Pred,(eO (Uz s p).slot G=some q\/∃k:Nat,G[k]?=some ⟨none,none,(Uz s p).slot,q⟩)/\∀w v,q w v->(Uz s p).p w v:=⟨⟨rfl,rfl⟩,p,.inl h,λ_ _ h=>h⟩
abbrev Vz (i s:Nat) (T:TypeId) (n:Nat) (ag:Bool) (p:Pred):Vr:=⟨i,s,none,none,.ptr,T,n,ag,pv p,[]⟩
section
variable {P:Program} {w:World} {fn:Func}
end
section
variable {P:Program} {Q:Exit->Act->World->Prop} {c:bJ} {V:List Vr} {G:List aI} {a:Act} {w:World} {fn:Func}
theorem Inv.cv {V':List Vr} {G':List aI} (h:Inv c V [] G none_ a w) (hV:yn V V') (hG:ym G G'):Inv c V' [] G' none_ a w:=h.conv hV.ok hG.ok
theorem ry {ι:Type} {V1:ι->List Vr} {G1:ι->List aI} {φ:ι->Prop} {μ:ι->Nat} {k:ι} (k':ι) (h:φ k') (hI:Inv c V [] G none_ a w) (hV:yn V (V1 k')) (hG:ym G (G1 k')) (hm:μ k'<μ k):∃k',(φ k'/\Inv c (V1 k') [] (G1 k') none_ a w)/\μ k'<μ k:=⟨k',⟨h,hI.cv hV hG⟩,hm⟩
variable {p q:Pred}
theorem rt {s:Nat} (hq:∀w v,q w v->p w v) (h:eO s G=some q:=by exact rfl):cu P V G (.tmp s) p:=(iz h).elim λk hk=>.imp (.tmp k hk) hq
theorem f1 {r:ResultVar} (hI:Inv c V [] G none_ a w) (h:cu P V G r p:=by exact rt wC) (hr:fn.results=#[r]:=by exact rfl) (hn:∀k,¬c.dx k:=by exactλ_ h=>h):bodyPost P fn (bX c.M0 p c.w0) .ret a w:=cn hI hr h hn
variable {r1 r2:ResultVar}
theorem f2 (hI:Inv c V [] G none_ a w) (h1:cu P V G r1 p:=by exact rt wC) (h2:cu P V G r2 q:=by exact rt wC) (hr:fn.results=#[r1,r2]:=by exact rfl) (hn:∀k,¬c.dx k:=by exactλ_ h=>h):bodyPost P fn (bX c.M0 (dB p q) c.w0) .ret a w:=ki hI hr h1 h2 hn
theorem f3 {r3:ResultVar} {r:Pred} (hI:Inv c V [] G none_ a w) (h1:cu P V G r1 p:=by exact rt wC) (h2:cu P V G r2 q:=by exact rt wC) (h3:cu P V G r3 r:=by exact rt wC) (hr:fn.results=#[r1,r2,r3]:=by exact rfl) (hn:∀k,¬c.dx k:=by exactλ_ h=>h):bodyPost P fn (bX c.M0 (oX p q r) c.w0) .ret a w:=DS hI hr h1 h2 h3 hn
end
end Wx

namespace Wx
open Go Go.RowKit
theorem Post.down {G:List aI} {i:Nat} {p q:Pred} (h:Post G i q) (hq:∀w v,p w v->q w v):Post G i p:=by
 cases h with
 |at_ k s r h hr=>exact .at_ k s r h λw v hp=>hr w v (hq w v hp)
 |none h=>exact .none h
section
variable {P:Program} {ops:Array Oper} {ms:List Nat} {c:bJ} {V:List Vr} {A:List Al} {G:List aI} {i:Nat}{d:Nat} {x y z:Operand} {ty:TypeId} {pos:String} {au:Array Edge}
end
end Wx

namespace Wx
open Go Go.RowKit
section
variable {P:Program} {ops:Array Oper} {ms:List Nat} {c:bJ} {V:List Vr} {A:List Al} {G:List aI} {i:Nat}{d:Nat} {x y z:Operand} {ty:TypeId} {pos:String} {au:Array Edge}
end
section
variable {c:bJ} {V:List Vr} {A:List Al} {G:List aI} {a:Act} {w:World}
end
section
variable {P:Program} {ops:Array Oper} {ms:List Nat} {c:bJ} {V:List Vr} {A:List Al} {G:List aI} {i:Nat}{d:Nat} {x y z:Operand} {ty:TypeId} {pos:String} {au:Array Edge}
end
section
variable {F:Rat->Pred} {j k:Nat} {l:List Rat}
end
section
variable {P:Program} {ops:Array Oper} {ms:List Nat} {c:bJ} {V:List Vr} {A:List Al} {G:List aI} {i:Nat}{d:Nat} {x y z:Operand} {ty:TypeId} {pos:String} {au:Array Edge}
end
section
variable {P:Program} {ops:Array Oper} {ms:List Nat} {c:bJ} {V:List Vr} {A:List Al} {G:List aI} {i:Nat}{d:Nat} {ty:TypeId} {pos:String} {au:Array Edge}
theorem pF {f:FuncId} {fx x:Operand} {ts:Array TypeId} {p p1 q1:Pred} {φ:Prop} (eZ:φ->∀M w v1,dm M w->aK M (λw=>p1 w v1) w->Calls P f #[v1] w (bX M p w)) (hx:Has ms G i fx (aJ (.func (.func f) #[] #[])):=by exact hs) (h1:Has ms G i x q1:=by exact hs) (c1:∀w v,q1 w v->p1 w v:=by exact ig) (hp:Post G i p:=by exact pt rfl) (hφ:φ:=by first|omega|trivial) (hf:aA P f:=by exactλ_ _=>by kernel_rfl):
  OpOk P ops ms c V A G i ⟨some d,.call ⟨.value fx,#[x],ts⟩,ty,pos,au,none⟩:=
 vh hf hx hp λ_ _ a w hI hd=>(by
  rw[show(#[x]:Array Operand).map a.eval=#[a.eval x] by simp]
  exact eZ hφ _ w _ (aL hI) ((h1.imp c1).spec hI hd))
end
end Wx

namespace Wx
open Go Go.RowKit
section
variable {P:Program} {ops:Array Oper} {ms:List Nat} {c:bJ} {V:List Vr} {A:List Al} {G:List aI} {i:Nat}{d:Nat} {x y z:Operand} {ty:TypeId} {pos:String} {au:Array Edge}{T:TypeId} {n:Nat} {p:Pred}
theorem xI {ag:Bool} (hnb:(V.all λx=>x.born != some i&&x.dead != some i)=true) (h:Has ms G i x p) (hf:Fits n ag p) (hp:Post G i (cZ n ag p)):
  OpOk P ops ms c V A G i ⟨some d,.box T x,ty,pos,au,none⟩:=
 jQ rfl (λ_=>qm hnb) rfl (.inl rfl) hp λL β a w hI hd=>by
  have hq:=h.spec hI hd
  obtain⟨cs,e,hl,hcells,h1⟩:=hf w _ hq.out
  have hb:Below w.heap.size w (w.alloc (.cells cs.toArray T)):=Below.alloc (Below.refl _ _) (Nat.le_refl _) _
  refine⟨.pointer (some ⟨w.heap.size,0,none⟩),w.alloc (.cells cs.toArray T),?_,hb,λw' he=>?_⟩
  ·show(do pure (Next.value (<-Instr.box T (a.eval x)))).run P w=_
   simp only[Instr.box,newVar,newRow,hcells]
   rfl
  ·have hgt:w'.heap[w.heap.size]?=some (.cells cs.toArray T (0,0)):=by
    rw[he.block w.heap.size (by simp) (λo h=>by have:=jm hI h; omega)]
    exact heap_alloc_new _ _
   have k:=hq w' ((Ext.bg hb).trans he)
   rw[e]at k
   refine⟨w.heap.size,0,cs,rfl,hl,λj u hj=>?_,k⟩
   simp only[World.cell?,hgt,Nat.zero_add]
   simpa using hj
theorem EO (n:Nat) (ag:Bool) (h:Has ms G i x p:=by exact hs) (hf:Fits n ag p:=by exact sx) (hp:Post G i (cZ n ag p):=by exact pt rfl) (hnb:(V.all λx=>x.born != some i&&x.dead != some i)=true:=by kernel_rfl):
  OpOk P ops ms c V A G i ⟨some d,.box T x,ty,pos,au,none⟩:=xI hnb h hf hp
variable {sz b o:Nat}
theorem nC {P:Program} (h:zy P T n sz=true) (w:World):(Instr.sliceAt T (.pointer (some ⟨b,o,none⟩)) none none none).run P w=.ok (.slice (some ⟨b,o,none⟩) n n) w:=by
 unfold zy at h
 split at h
 ·rename_i m E hE
  rw[Bool.and_eq_true]at h
  have e:=Nat.eq_of_beq_eq_true h.1
  subst e
  have hu:(underlying T).run P w=.ok (.array m E) w:=run_underlying hE w
  have hz:(Go.sizeOf E).run P w=.ok sz w:=jT h.2 w
  simp only[Instr.sliceAt,Sem.run_bind,hu,Result.andThen_ok,Instr.sureAddr,Instr.sliceBounds,pure_bind,Sem.run_pure,hz,Nat.sub_zero]
  by_cases hm:m=0
  ·rw[if_pos hm]
  ·rw[if_neg hm,Nat.zero_mul]; rfl
 ·cases h
theorem oZ {M:Nat->Nat->Prop} {w w':World} {off:Nat} {q:Pred} {v:Value} (he:Ext M w w') (h:aK M (λw=>cZ sz true p w v) w) (e:v=.pointer (some ⟨b,o,none⟩)) (hq:∀w cs,cs.length=sz->p w (ah true cs)->q w (ah true ((cs.drop off).take n))) (hle:off+n<=sz):cZ n true q w' (.pointer (some ⟨b,o+off,none⟩)):=by
 obtain⟨b',o',cs,e',hl,hc,hp'⟩:=h w' he
 rw[e]at e'
 cases e'
 refine⟨b,o+off,(cs.drop off).take n,rfl,by rw[List.length_take,List.length_drop]; omega,λj u hj=>?_,hq w' cs hl hp'⟩
 rw[List.getElem?_take]at hj
 split at hj
 ·rw[List.getElem?_drop]at hj
  have:=hc _ _ hj
  rwa [Nat.add_assoc]
 ·cases hj
theorem ej {agg:Bool} {f g:Nat->Pred} (h:∀k,k<n->∀w v,f k w v->g k w v):∀w v,ax sz agg n f w v->ax sz agg n g w v:=λ_ _ ⟨A,cap,e,h1,h2,h3⟩=>⟨A,cap,e,h1,h2,λh0=>(h3 h0).elim λb h4=>h4.elim λo h5=>⟨b,o,h5.1,λi hi=>(h5.2 i hi).elim λcs h6=>⟨cs,h6.1,h6.2.1,h i hi _ _ h6.2.2⟩⟩⟩
theorem sC {f:FuncId} {x y:Operand} {ts:Array TypeId} {p1 p2 q1 q2:Pred} {φ ψ:Prop} (hψ:ψ) (eZ:φ->∀M w v1 v2,dm M w->aK M (λw=>p1 w v1) w->aK M (λw=>p2 w v2) w->Calls P f #[v1,v2] w (bX M p w)) (h1:Has ms G i x q1:=by exact hg) (c1:∀w v,q1 w v->p1 w v:=by exact ig) (h2:Has ms G i y q2:=by exact hg) (c2:∀w v,q2 w v->p2 w v:=by exact ig) (hp:Post G i p:=by exact pg (by assumption) rfl) (hφ:φ:=by first|omega|trivial) (hf:aA P f:=by exactλ_ _=>by kernel_rfl):
  OpOk P ops ms c V A G i ⟨some d,.call ⟨.value (.func f),#[x,y],ts⟩,ty,pos,au,none⟩:=(λ_:ψ=>mg hf (h1.imp c1) (h2.imp c2) hp (eZ hφ)) hψ
end
end Wx
