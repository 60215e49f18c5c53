import Derived.Test.YtfnmkhlleanppaaGreatDoorJWC13
namespace Wx
open Go Go.RowKit
abbrev Uc (i s:Nat) (p:Pred):aN:=⟨some i,none,s,p⟩
abbrev Uz (s:Nat) (p:Pred):aN:=⟨none,none,s,p⟩
variable {p q:Pred}
theorem Ak (h:∀w v,p w v->q w v:=by
 first
 |exact rZ (by omega)
 |exact zD (by omega)
 |exact vm.pV (by repeat' (first|exact vm.z|refine vm.c (by omega) ?_))
 |exact bh (by omega)
 |exactλ_ _ h=>h
 |exact H7 rfl (by omega)
 |exact H8 rfl (by omega)):∀w v,p w v->q w v:=h
def DA (G:List aN):List aN->Prop
 |[]=>True
 |e::es=>((e.tag=none/\e.till=none)/\∃p:Pred,(dz e.slot G=some p\/∃k:Nat,G[k]?=some ⟨none,none,e.slot,p⟩)/\∀w v,p w v->e.p w v)/\DA G es
variable {G:List aN}
theorem DA.ok:∀{G':List aN},DA G G'->qC G G'
 |[],_=>trivial
 |_::_,⟨⟨⟨h1,h2⟩,p,h3,h4⟩,h5⟩=>⟨⟨h1,h2,(h3.elim (λh3=>cx h3) λh3=>h3).elim λk hk=>⟨k,p,hk,h4⟩⟩,DA.ok h5⟩
def DB (V:List Vr):List Vr->Prop
 |[]=>True
 |x::xs=>(∃p:Rel,ia x.id V=some ⟨x.id,x.slot,none,none,x.kd,x.T,x.n,x.agg,p,[]⟩/\(x.born=none/\x.dead=none/\x.st=[])/\∀F w v,p F w v->x.c0 F w v)/\DB V xs
variable {V:List Vr}
theorem DB.ok:∀{V':List Vr},DB V V'->qF V V'
 |[],_=>trivial
 |_::_,⟨⟨p,h1,h2,h3⟩,h4⟩=>⟨(cH h1).1.elim λk hk=>⟨k,_,p,hk,h2,rfl,h3⟩,DB.ok h4⟩
variable {s:Nat}
theorem gc (h:dz s G=some p:=by exact rfl) (hq:∀w v,p w v->q w v:=by exact Ak):((Uz s q).tag=none/\(Uz s q).till=none)/\∃p:Pred,(dz (Uz s q).slot G=some p\/∃k:Nat,G[k]?=some ⟨none,none,(Uz s q).slot,p⟩)/\∀w v,p w v->(Uz s q).p w v:=⟨⟨rfl,rfl⟩,p,.inl h,hq⟩
theorem gC (hq:∀w v,p w v->q w v) (h:dz s G=some p:=by exact rfl):((Uz s q).tag=none/\(Uz s q).till=none)/\∃p:Pred,(dz (Uz s q).slot G=some p\/∃k:Nat,G[k]?=some ⟨none,none,(Uz s q).slot,p⟩)/\∀w v,p w v->(Uz s q).p w v:=⟨⟨rfl,rfl⟩,p,.inl h,hq⟩
theorem gi (h:dz s G=some p:=by exact rfl):((Uz s p).tag=none/\(Uz s p).till=none)/\∃q:Pred,(dz (Uz s p).slot G=some q\/∃k:Nat,G[k]?=some ⟨none,none,(Uz s p).slot,q⟩)/\∀w v,q w v->(Uz s p).p w v:=⟨⟨rfl,rfl⟩,p,.inl h,λ_ _ h=>h⟩
theorem gq (n:Nat) (h:G[n]?=some ⟨none,none,s,q⟩:=by exact rfl):((Uz s q).tag=none/\(Uz s q).till=none)/\∃p:Pred,(dz (Uz s q).slot G=some p\/∃k:Nat,G[k]?=some ⟨none,none,(Uz s q).slot,p⟩)/\∀w v,p w v->(Uz s q).p w v:=⟨⟨rfl,rfl⟩,q,.inr ⟨n,h⟩,λ_ _ h=>h⟩
abbrev Vz (i s:Nat) (T:TypeId) (n:Nat) (ag:Bool) (p:Pred):Vr:=⟨i,s,none,none,.ptr,T,n,ag,pv p,[]⟩
variable {i T n:Nat} {ag:Bool}
theorem vc (h:ia i V=some (Vz i s T n ag p):=by exact rfl) (hq:∀w v,p w v->q w v:=by exact Ak):∃r:Rel,ia (Vz i s T n ag q).id V=some ⟨(Vz i s T n ag q).id,(Vz i s T n ag q).slot,none,none,(Vz i s T n ag q).kd,(Vz i s T n ag q).T,(Vz i s T n ag q).n,(Vz i s T n ag q).agg,r,[]⟩/\((Vz i s T n ag q).born=none/\(Vz i s T n ag q).dead=none/\(Vz i s T n ag q).st=[])/\∀F w v,r F w v->(Vz i s T n ag q).c0 F w v:=⟨pv p,h,⟨rfl,rfl,rfl⟩,λ_=>hq⟩
theorem vi (h:ia i V=some (Vz i s T n ag p):=by exact rfl):∃r:Rel,ia (Vz i s T n ag p).id V=some ⟨(Vz i s T n ag p).id,(Vz i s T n ag p).slot,none,none,(Vz i s T n ag p).kd,(Vz i s T n ag p).T,(Vz i s T n ag p).n,(Vz i s T n ag p).agg,r,[]⟩/\((Vz i s T n ag p).born=none/\(Vz i s T n ag p).dead=none/\(Vz i s T n ag p).st=[])/\∀F w v,r F w v->(Vz i s T n ag p).c0 F w v:=⟨_,h,⟨rfl,rfl,rfl⟩,λ_ _ _ h=>h⟩
theorem vC (hq:∀w v,p w v->q w v) (h:ia i V=some (Vz i s T n ag p):=by exact rfl):∃r:Rel,ia (Vz i s T n ag q).id V=some ⟨(Vz i s T n ag q).id,(Vz i s T n ag q).slot,none,none,(Vz i s T n ag q).kd,(Vz i s T n ag q).T,(Vz i s T n ag q).n,(Vz i s T n ag q).agg,r,[]⟩/\((Vz i s T n ag q).born=none/\(Vz i s T n ag q).dead=none/\(Vz i s T n ag q).st=[])/\∀F w v,r F w v->(Vz i s T n ag q).c0 F w v:=⟨pv p,h,⟨rfl,rfl,rfl⟩,λ_=>hq⟩
section
variable {P:Program} {w:World} {fn:Func}
end
section
variable {P:Program} {Q:Exit->Act->World->Prop} {c:bQ} {V:List Vr} {G:List aN} {a:Act} {w:World} {fn:Func}
theorem Inv.cv {V':List Vr} {G':List aN} (h:Inv c V [] G none_ a w) (hV:DB V V') (hG:DA G G'):Inv c V' [] G' none_ a w:=h.conv hV.ok hG.ok
theorem nQ {ι:Type} {V1:ι->List Vr} {G1:ι->List aN} {φ:ι->Prop} {μ:ι->Nat} {k:ι} (k':ι) (h:φ k') (hI:Inv c V [] G none_ a w) (hV:DB V (V1 k')) (hG:DA G (G1 k')) (hm:μ k'<μ k):∃k',(φ k'/\Inv c (V1 k') [] (G1 k') none_ a w)/\μ k'<μ k:=⟨k',⟨h,hI.cv hV hG⟩,hm⟩
variable {p q:Pred}
theorem rt {s:Nat} (hq:∀w v,q w v->p w v) (h:dz s G=some q:=by exact rfl):cw P V G (.tmp s) p:=(cx h).elim λk hk=>.imp (.tmp k hk) hq
theorem f1 {r:ResultVar} (hI:Inv c V [] G none_ a w) (h:cw P V G r p:=by exact rt Ak) (hr:fn.results=#[r]:=by exact rfl) (hn:∀k,¬c.dc k:=by exactλ_ h=>h):bodyPost P fn (cI c.M0 p c.w0) .ret a w:=bW hI hr h hn
variable {r1 r2:ResultVar}
theorem f2 (hI:Inv c V [] G none_ a w) (h1:cw P V G r1 p:=by exact rt Ak) (h2:cw P V G r2 q:=by exact rt Ak) (hr:fn.results=#[r1,r2]:=by exact rfl) (hn:∀k,¬c.dc k:=by exactλ_ h=>h):bodyPost P fn (cI c.M0 (dF p q) c.w0) .ret a w:=fe hI hr h1 h2 hn
theorem f3 {r3:ResultVar} {r:Pred} (hI:Inv c V [] G none_ a w) (h1:cw P V G r1 p:=by exact rt Ak) (h2:cw P V G r2 q:=by exact rt Ak) (h3:cw P V G r3 r:=by exact rt Ak) (hr:fn.results=#[r1,r2,r3]:=by exact rfl) (hn:∀k,¬c.dc k:=by exactλ_ h=>h):bodyPost P fn (cI c.M0 (kj p q r) c.w0) .ret a w:=DZ hI hr h1 h2 h3 hn
end
end Wx

namespace Wx
open Go Go.RowKit
inductive Zf
 |o (z:Zl)
 |m (l:List Zl)
def Zf.cs:Zf->List Value
 |.o z=>z.cs
 |.m l=>l.flatMap Zl.cs
def Zf.fd:Zf->Fd
 |.o z=>z.fd
 |.m l=>⟨true,(l.flatMap Zl.cs).length,pS (l.map Zl.fd)⟩
def Zf.size:Zf->Nat
 |.o .r|.o .f=>3
 |.o _=>1
 |.m l=>(l.flatMap Zl.cs).length
theorem Iw (w:World):∀l:List Zf,aH (l.map Zf.fd) w (l.flatMap Zf.cs):=by
 intro l
 induction l with
 |nil=>rfl
 |cons z l ih=>
  cases z with
  |o z=>
   have h:=Dz w [z]
   obtain⟨h1,h2,h3⟩:=h
   simp only[List.flatMap_cons,List.flatMap_nil,List.append_nil]at h1 h2 h3
   have h3:(Zl.cs z).drop (Zl.fd z).n=[]:=h3
   have e:(Zl.cs z).length=(Zl.fd z).n:=by cases z<;>rfl
   refine⟨?_,?_,?_⟩
   ·show(Zl.fd z).n<=(Zl.cs z++l.flatMap Zf.cs).length; rw[List.length_append]; omega
   ·show(Zl.fd z).p w (aq (Zl.fd z).agg ((Zl.cs z++l.flatMap Zf.cs).take (Zl.fd z).n))
    rw[List.take_append_of_le_length (by omega)]; exact h2
   ·show aH (l.map Zf.fd) w ((Zl.cs z++l.flatMap Zf.cs).drop (Zl.fd z).n)
    rw[List.drop_append_of_le_length (by omega),h3]; exact ih
  |m zs=>
   refine⟨?_,?_,?_⟩
   ·show(zs.flatMap Zl.cs).length<=(zs.flatMap Zl.cs++l.flatMap Zf.cs).length; rw[List.length_append]; omega
   ·show pS (zs.map Zl.fd) w (aq true ((zs.flatMap Zl.cs++l.flatMap Zf.cs).take (zs.flatMap Zl.cs).length))
    rw[List.take_left']
    ·exact Af zs w
    ·rfl
   ·show aH (l.map Zf.fd) w ((zs.flatMap Zl.cs++l.flatMap Zf.cs).drop (zs.flatMap Zl.cs).length)
    rw[List.drop_left']
    ·exact ih
    ·rfl
def Ks:Nat->List Zf->List (Nat×Nat)
 |_,[]=>[]
 |o,z::l=>(o,z.size)::Ks (o+z.size) l
inductive gr:List Fd->List Fd->Prop
 |z:gr [] []
 |k {f:Fd} {fs hs:List Fd}:gr fs hs->gr (f::fs) (f::hs)
 |m {n:Nat} {gs fs hs r:List Fd}:gr fs hs->qP gs (some hs)=some r->gr (⟨true,n,pS gs⟩::fs) r
variable {fs hs:List Fd}
theorem gr.ok (h:gr fs hs):∀{w:World} {cs:List Value},aH fs w cs->aH hs w cs:=by
 induction h with
 |z=>exactλh=>h
 |k _ ih=>exact λ⟨h1,h2,h3⟩=>⟨h1,h2,ih h3⟩
 |m _ hc ih=>
  rintro w cs ⟨h1,⟨ds,e,h2⟩,h3⟩
  have e:=cR (show aq true (cs.take _)=aq true ds from e)
  subst e
  have:=pc hc h2 (ih h3)
  rwa [List.take_append_drop]at this
theorem gr.pS (h:gr fs hs):∀w v,Wx.pS fs w v->Wx.pS hs w v:=λ_ _ ⟨cs,e,hc⟩=>⟨cs,e,h.ok hc⟩
theorem Post.down {G:List aN} {i:Nat} {p q:Pred} (h:Post G i q) (hq:∀w v,p w v->q w v):Post G i p:=by
 cases h with
 |at_ k s r h hr=>exact .at_ k s r h λw v hp=>hr w v (hq w v hp)
 |none h=>exact .none h
section
variable {P:Program} {ops:Array Oper} {ms:List Nat} {c:bQ} {V:List Vr} {A:List Al} {G:List aN} {i:Nat}{d:Nat} {x y z:Operand} {ty:TypeId} {pos:String} {aft:Array Edge}
def Lx (fs:List Fd) (pf:Nat->Option (Nat×Nat)):Bool:=(List.range fs.length).all λk=>match fs[k]? with
 |some f=>pf k==some (bg fs k,f.n)
 |none=>true
variable {fs:List Fd} {pf:Nat->Option (Nat×Nat)}
theorem Fs (h:Lx fs pf=true):∀(k:Nat) (f:Fd),fs[k]?=some f->pf k=some (bg fs k,f.n):=by
 intro k f hk
 have hlt:k<fs.length:=by
  rcases Nat.lt_or_ge k fs.length with h'|h'
  ·exact h'
  ·rw[List.getElem?_eq_none h']at hk; cases hk
 have:=List.all_eq_true.1 h k (List.mem_range.2 hlt)
 rw[hk]at this
 simpa using this
variable {T:TypeId} {parts:Array (Nat×Operand)} {gs:List Fd}
theorem wk {z:List Value} {ps:List (Nat×Pred)} (ht:∀parts,P.built T parts=Instr.fill pf z.toArray parts) (vN:∀(k:Nat) (f:Fd),fs[k]?=some f->pf k=some (bg fs k,f.n)) (hz:∀w,aH fs w z)
  (hps:bZ ms G i fs parts.toList ps) (hg:ku fs ps=gs) (hp:Post G i (pS gs)):
  OpOk P ops ms c V A G i ⟨some d,.build T parts,ty,pos,aft,none⟩:=
 bD rfl rfl rfl (.inl rfl) hp λL β a w hI hd=>by
  have key:∀(xs:List (Nat×Operand)) (ps:List (Nat×Pred)),bZ ms G i fs xs ps->aJ (own c V L β) (λw=>jy fs w (xs.map λq=>(q.1,a.eval q.2)) ps) w:=by
   intro xs
   induction xs with
   |nil=>intro ps h; cases ps<;>exactλ_ _=>h
   |cons q xs ih=>
    intro ps h
    obtain⟨j,x⟩:=q
    cases ps with
    |nil=>exact h.elim
    |cons r ps=>
     obtain⟨k,p⟩:=r
     obtain⟨⟨e,h1,h2⟩,h3⟩:=h
     exactλw' he=>⟨⟨e,h1.spec hI hd w' he,h2⟩,ih ps h3 w' he⟩
  have hb:=key _ _ hps
  obtain⟨cs',h1,h2,h3⟩:=pq (pl:=pf) _ _ fs z vN (hz w) hb.out
  refine⟨.agg cs'.toArray,w,?_,Below.refl _ _,λw' he=>?_⟩
  ·show(do pure (Next.value (<-Instr.build T (parts.map λ(i,x)=>(i,a.eval x))))).run P w=_
   have e:(parts.map λ(i,x)=>(i,a.eval x)).toList=parts.toList.map λq=>(q.1,a.eval q.2):=by simp
   rw[Sem.run_bind,run_build w T _ cs'.toArray (by rw[e,ht]; exact h1)]
   rfl
  ·rw[<-hg]
   exact Dr (h3 w' (hz w') (hb w' he))
theorem bd {hs:List Fd} (l:List Zf) (ps:List (Nat×Pred)) (hps:bZ ms G i (l.map Zf.fd) parts.toList ps:=by repeat' (first|exact trivial|refine⟨⟨rfl,Wx.hs,_,rfl,pz⟩,?_⟩))
  (hg:ku (l.map Zf.fd) ps=gs:=by exact rfl) (hF:gr gs hs:=by repeat' (first|exact gr.z|exact rfl|apply gr.m|apply gr.k)) (hp:Post G i (pS hs):=by exact pt rfl) (ht:∀parts,P.built T parts=Instr.fill (λi=>(Ks 0 l).toArray[i]?) (l.flatMap Zf.cs).toArray parts:=by(intro parts; kernel_rfl)) (vN:Lx (l.map Zf.fd) (λi=>(Ks 0 l).toArray[i]?)=true:=by kernel_rfl):
  OpOk P ops ms c V A G i ⟨some d,.build T parts,ty,pos,aft,none⟩:=
 wk ht (Fs vN) (λw=>Iw w l) hps hg (hp.down hF.pS)
end
end Wx

namespace Wx
open Go Go.RowKit
section
variable {P:Program} {ops:Array Oper} {ms:List Nat} {c:bQ} {V:List Vr} {A:List Al} {G:List aN} {i:Nat}{d:Nat} {x y z:Operand} {ty:TypeId} {pos:String} {aft:Array Edge}
end
section
variable {c:bQ} {V:List Vr} {A:List Al} {G:List aN} {a:Act} {w:World}
end
section
variable {P:Program} {ops:Array Oper} {ms:List Nat} {c:bQ} {V:List Vr} {A:List Al} {G:List aN} {i:Nat}{d:Nat} {x y z:Operand} {ty:TypeId} {pos:String} {aft:Array Edge}
end
section
variable {F:Rat->Pred} {j k:Nat} {l:List Rat}
end
section
variable {P:Program} {ops:Array Oper} {ms:List Nat} {c:bQ} {V:List Vr} {A:List Al} {G:List aN} {i:Nat}{d:Nat} {x y z:Operand} {ty:TypeId} {pos:String} {aft:Array Edge}
end
section
variable {P:Program} {ops:Array Oper} {ms:List Nat} {c:bQ} {V:List Vr} {A:List Al} {G:List aN} {i:Nat}{d:Nat} {ty:TypeId} {pos:String} {aft:Array Edge}
theorem sJ {f:FuncId} {fx x:Operand} {ts:Array TypeId} {p p1 q1:Pred} {φ:Prop} (gj:φ->∀M w v1,cS M w->aJ M (λw=>p1 w v1) w->Calls P f #[v1] w (cI M p w)) (hx:Has ms G i fx (aG (.func (.func f) #[] #[])):=by exact hs) (h1:Has ms G i x q1:=by exact hs) (c1:∀w v,q1 w v->p1 w v:=by exact jw) (hp:Post G i p:=by exact pt rfl) (hφ:φ:=by first|omega|trivial) (hf:aK P f:=by exactλ_ _=>by kernel_rfl):
  OpOk P ops ms c V A G i ⟨some d,.call ⟨.value fx,#[x],ts⟩,ty,pos,aft,none⟩:=
 zk hf hx hp λ_ _ a w hI hd=>(by
  rw[show(#[x]:Array Operand).map a.eval=#[a.eval x] by simp]
  exact gj hφ _ w _ (aF hI) ((h1.imp c1).spec hI hd))
end
end Wx

namespace Wx
open Go Go.RowKit
section
variable {P:Program} {ops:Array Oper} {ms:List Nat} {c:bQ} {V:List Vr} {A:List Al} {G:List aN} {i:Nat}{d:Nat} {x y z:Operand} {ty:TypeId} {pos:String} {aft:Array Edge}{T:TypeId} {n:Nat} {p:Pred}
theorem BU {ag:Bool} (hnb:(V.all λx=>x.born != some i&&x.dead != some i)=true) (h:Has ms G i x p) (hf:Fits n ag p) (hp:Post G i (dM n ag p)):
  OpOk P ops ms c V A G i ⟨some d,.box T x,ty,pos,aft,none⟩:=
 lW rfl (λ_=>tC hnb) rfl (.inl rfl) hp λL β a w hI hd=>by
  have hq:=h.spec hI hd
  obtain⟨cs,e,hl,hcells,h1⟩:=hf w _ hq.out
  have hb:Below w.heap.size w (w.alloc (.cells cs.toArray T)):=Below.alloc (Below.refl _ _) (Nat.le_refl _) _
  refine⟨.pointer (some ⟨w.heap.size,0,none⟩),w.alloc (.cells cs.toArray T),?_,hb,λw' he=>?_⟩
  ·show(do pure (Next.value (<-Instr.box T (a.eval x)))).run P w=_
   simp only[Instr.box,newVar,newRow,hcells]
   rfl
  ·have hgt:w'.heap[w.heap.size]?=some (.cells cs.toArray T (0,0)):=by
    rw[he.block w.heap.size (by simp) (λo h=>by have:=kS hI h; omega)]
    exact heap_alloc_new _ _
   have k:=hq w' ((Ext.bH hb).trans he)
   rw[e]at k
   refine⟨w.heap.size,0,cs,rfl,hl,λj u hj=>?_,k⟩
   simp only[World.cell?,hgt,Nat.zero_add]
   simpa using hj
theorem KR (n:Nat) (ag:Bool) (h:Has ms G i x p:=by exact hs) (hf:Fits n ag p:=by exact pz) (hp:Post G i (dM n ag p):=by exact pt rfl) (hnb:(V.all λx=>x.born != some i&&x.dead != some i)=true:=by kernel_rfl):
  OpOk P ops ms c V A G i ⟨some d,.box T x,ty,pos,aft,none⟩:=BU hnb h hf hp
variable {sz b o:Nat}
theorem qs {P:Program} (h:DJ P T n sz=true) (w:World):(Instr.sliceAt T (.pointer (some ⟨b,o,none⟩)) none none none).run P w=.ok (.slice (some ⟨b,o,none⟩) n n) w:=by
 unfold DJ at h
 split at h
 ·rename_i m E hE
  rw[Bool.and_eq_true]at h
  have e:=Nat.eq_of_beq_eq_true h.1
  subst e
  have hu:(underlying T).run P w=.ok (.array m E) w:=run_underlying hE w
  have hz:(Go.sizeOf E).run P w=.ok sz w:=lZ h.2 w
  simp only[Instr.sliceAt,Sem.run_bind,hu,Result.andThen_ok,Instr.sureAddr,Instr.sliceBounds,pure_bind,Sem.run_pure,hz,Nat.sub_zero]
  by_cases hm:m=0
  ·rw[if_pos hm]
  ·rw[if_neg hm,Nat.zero_mul]; rfl
 ·cases h
theorem sk {M:Nat->Nat->Prop} {w w':World} {off:Nat} {q:Pred} {v:Value} (he:Ext M w w') (h:aJ M (λw=>dM sz true p w v) w) (e:v=.pointer (some ⟨b,o,none⟩)) (hq:∀w cs,cs.length=sz->p w (aq true cs)->q w (aq true ((cs.drop off).take n))) (hle:off+n<=sz):dM n true q w' (.pointer (some ⟨b,o+off,none⟩)):=by
 obtain⟨b',o',cs,e',hl,hc,hp'⟩:=h w' he
 rw[e]at e'
 cases e'
 refine⟨b,o+off,(cs.drop off).take n,rfl,by rw[List.length_take,List.length_drop]; omega,λj u hj=>?_,hq w' cs hl hp'⟩
 rw[List.getElem?_take]at hj
 split at hj
 ·rw[List.getElem?_drop]at hj
  have:=hc _ _ hj
  rwa [Nat.add_assoc]
 ·cases hj
theorem iN {agg:Bool} {f g:Nat->Pred} (h:∀k,k<n->∀w v,f k w v->g k w v):∀w v,aI sz agg n f w v->aI sz agg n g w v:=λ_ _ ⟨A,cap,e,h1,h2,h3⟩=>⟨A,cap,e,h1,h2,λh0=>(h3 h0).elim λb h4=>h4.elim λo h5=>⟨b,o,h5.1,λi hi=>(h5.2 i hi).elim λcs h6=>⟨cs,h6.1,h6.2.1,h i hi _ _ h6.2.2⟩⟩⟩
theorem ri {f:FuncId} {x y:Operand} {ts:Array TypeId} {p1 p2 q1 q2:Pred} {φ ψ:Prop} (hψ:ψ) (gj:φ->∀M w v1 v2,cS M w->aJ M (λw=>p1 w v1) w->aJ M (λw=>p2 w v2) w->Calls P f #[v1,v2] w (cI M p w)) (h1:Has ms G i x q1:=by exact hg) (c1:∀w v,q1 w v->p1 w v:=by exact jw) (h2:Has ms G i y q2:=by exact hg) (c2:∀w v,q2 w v->p2 w v:=by exact jw) (hp:Post G i p:=by exact pg (by assumption) rfl) (hφ:φ:=by first|omega|trivial) (hf:aK P f:=by exactλ_ _=>by kernel_rfl):
  OpOk P ops ms c V A G i ⟨some d,.call ⟨.value (.func f),#[x,y],ts⟩,ty,pos,aft,none⟩:=(λ_:ψ=>oC hf (h1.imp c1) (h2.imp c2) hp (gj hφ)) hψ
end
end Wx
