import Derived.Test.YtocboimkilkklaaGreatJRF20
namespace Wx
open Go Go.RowKit
abbrev Uc (i s:Nat) (p:Pred):bI:=⟨some i,none,s,p⟩
abbrev Uz (s:Nat) (p:Pred):bI:=⟨none,none,s,p⟩
variable {p q:Pred}
theorem Kw (h:∀w v,p w v->q w v:=by
 first
 |exact Bg (by omega)
 |exact Ev (by omega)
 |exact qL.pV (by repeat' (first|exact qL.z|refine qL.c (by omega) ?_))
 |exact fl (by omega)
 |exactλ_ _ h=>h
 |exact Su rfl (by omega)
 |exact uT rfl (by omega)):∀w v,p w v->q w v:=h
def NI (G:List bI):List bI->Prop
 |[]=>True
 |e::es=>((e.tag=none/\e.till=none)/\∃p:Pred,(iW e.slot G=some p\/∃k:Nat,G[k]?=some ⟨none,none,e.slot,p⟩)/\∀w v,p w v->e.p w v)/\NI G es
variable {G:List bI}
theorem NI.ok:∀{G':List bI},NI G G'->zB G G'
 |[],_=>trivial
 |_::_,⟨⟨⟨h1,h2⟩,p,h3,h4⟩,h5⟩=>⟨⟨h1,h2,(h3.elim (λh3=>gj h3) λh3=>h3).elim λk hk=>⟨k,p,hk,h4⟩⟩,NI.ok h5⟩
def NJ (V:List Vr):List Vr->Prop
 |[]=>True
 |x::xs=>(∃p:Rel,om x.id V=some ⟨x.id,x.slot,none,none,x.kd,x.T,x.n,x.agg,p,[]⟩/\(x.born=none/\x.dead=none/\x.st=[])/\∀F w v,p F w v->x.c0 F w v)/\NJ V xs
variable {V:List Vr}
theorem NJ.ok:∀{V':List Vr},NJ V V'->zH V V'
 |[],_=>trivial
 |_::_,⟨⟨p,h1,h2,h3⟩,h4⟩=>⟨(gw h1).1.elim λk hk=>⟨k,_,p,hk,h2,rfl,h3⟩,NJ.ok h4⟩
variable {s:Nat}
theorem gc (h:iW s G=some p:=by exact rfl) (hq:∀w v,p w v->q w v:=by exact Kw):((Uz s q).tag=none/\(Uz s q).till=none)/\∃p:Pred,(iW (Uz s q).slot G=some p\/∃k:Nat,G[k]?=some ⟨none,none,(Uz s q).slot,p⟩)/\∀w v,p w v->(Uz s q).p w v:=⟨⟨rfl,rfl⟩,p,.inl h,hq⟩
theorem gi (h:iW s G=some p:=by exact rfl):((Uz s p).tag=none/\(Uz s p).till=none)/\∃q:Pred,(iW (Uz s p).slot G=some q\/∃k:Nat,G[k]?=some ⟨none,none,(Uz s p).slot,q⟩)/\∀w v,q w v->(Uz s p).p w v:=⟨⟨rfl,rfl⟩,p,.inl h,λ_ _ h=>h⟩
theorem gq (n:Nat) (h:G[n]?=some ⟨none,none,s,q⟩:=by exact rfl):((Uz s q).tag=none/\(Uz s q).till=none)/\∃p:Pred,(iW (Uz s q).slot G=some p\/∃k:Nat,G[k]?=some ⟨none,none,(Uz s q).slot,p⟩)/\∀w v,p w v->(Uz s q).p w v:=⟨⟨rfl,rfl⟩,q,.inr ⟨n,h⟩,λ_ _ h=>h⟩
abbrev Vz (i s:Nat) (T:TypeId) (n:Nat) (ag:Bool) (p:Pred):Vr:=⟨i,s,none,none,.ptr,T,n,ag,pv p,[]⟩
variable {i T n:Nat} {ag:Bool}
theorem vc (h:om i V=some (Vz i s T n ag p):=by exact rfl) (hq:∀w v,p w v->q w v:=by exact Kw):∃r:Rel,om (Vz i s T n ag q).id V=some ⟨(Vz i s T n ag q).id,(Vz i s T n ag q).slot,none,none,(Vz i s T n ag q).kd,(Vz i s T n ag q).T,(Vz i s T n ag q).n,(Vz i s T n ag q).agg,r,[]⟩/\((Vz i s T n ag q).born=none/\(Vz i s T n ag q).dead=none/\(Vz i s T n ag q).st=[])/\∀F w v,r F w v->(Vz i s T n ag q).c0 F w v:=⟨pv p,h,⟨rfl,rfl,rfl⟩,λ_=>hq⟩
theorem vi (h:om i V=some (Vz i s T n ag p):=by exact rfl):∃r:Rel,om (Vz i s T n ag p).id V=some ⟨(Vz i s T n ag p).id,(Vz i s T n ag p).slot,none,none,(Vz i s T n ag p).kd,(Vz i s T n ag p).T,(Vz i s T n ag p).n,(Vz i s T n ag p).agg,r,[]⟩/\((Vz i s T n ag p).born=none/\(Vz i s T n ag p).dead=none/\(Vz i s T n ag p).st=[])/\∀F w v,r F w v->(Vz i s T n ag p).c0 F w v:=⟨_,h,⟨rfl,rfl,rfl⟩,λ_ _ _ h=>h⟩
theorem vC (hq:∀w v,p w v->q w v) (h:om i V=some (Vz i s T n ag p):=by exact rfl):∃r:Rel,om (Vz i s T n ag q).id V=some ⟨(Vz i s T n ag q).id,(Vz i s T n ag q).slot,none,none,(Vz i s T n ag q).kd,(Vz i s T n ag q).T,(Vz i s T n ag q).n,(Vz i s T n ag q).agg,r,[]⟩/\((Vz i s T n ag q).born=none/\(Vz i s T n ag q).dead=none/\(Vz i s T n ag q).st=[])/\∀F w v,r F w v->(Vz i s T n ag q).c0 F w v:=⟨pv p,h,⟨rfl,rfl,rfl⟩,λ_=>hq⟩
section
variable {P:Program} {w:World} {fn:Func}
end
section
variable {P:Program} {Q:Exit->Act->World->Prop} {c:eL} {V:List Vr} {G:List bI} {a:Act} {w:World} {fn:Func}
theorem Inv.cv {V':List Vr} {G':List bI} (h:Inv c V [] G none_ a w) (hV:NJ V V') (hG:NI G G'):Inv c V' [] G' none_ a w:=h.conv hV.ok hG.ok
variable {id:Nat} {l:List Oper} {V1 V2:List Vr} {G1 G2:List bI}
theorem BA {y:Code} (h:Inv c V [] G none_ a w) (ms:List Nat) (nv:List Vr) (A1:List Al) (ne:List bI) (hV:vT nv V V1) (hG:me ne G G1) (hs:oC P l.toArray ms c V1 A1 G1 0 l) (kV:fH V1 V2) (kG:aH G1 G2) (hk:∀a w,Inv c V2 [] G2 none_ a w->y.wp P Q a w) (hn:jF nv A1 ne=true:=by kernel_rfl) (hb:qB P c.N l ms V1 A1 G1=true:=by kernel_rfl):(Code.seq (Code.region id l.toArray true) y).wp P Q a w:=
 SA h nv A1 ne hV hG hn ms hb hs kV kG hk
theorem Qd (h:Inv c V [] G none_ a w) (n:Nat) (nv:List Vr) (A1:List Al) (ne:List bI) (hV:vT nv V V1) (hG:me ne G G1) (hs:oC P l.toArray (tm n 0) c V1 A1 G1 0 l) (kV:fH V1 V2) (kG:aH G1 G2) (hk:∀a w,Inv c V2 [] G2 none_ a w->Q .normal a w) (hn:jF nv A1 ne=true:=by kernel_rfl) (hb:oH c.N l (tm n 0) V1 A1 G1=true:=by kernel_rfl):(Code.region id l.toArray false).wp P Q a w:=
 ND h nv A1 ne hV hG hn (tm n 0) hb hs kV kG hk
theorem GR {ι:Type} {V1:ι->List Vr} {G1:ι->List bI} {φ:ι->Prop} {μ:ι->Nat} {k:ι} (k':ι) (h:φ k') (hI:Inv c V [] G none_ a w) (hV:NJ V (V1 k')) (hG:NI G (G1 k')) (hm:μ k'<μ k):∃k',(φ k'/\Inv c (V1 k') [] (G1 k') none_ a w)/\μ k'<μ k:=⟨k',⟨h,hI.cv hV hG⟩,hm⟩
variable {p q:Pred}
theorem rt {s:Nat} (hq:∀w v,q w v->p w v) (h:iW s G=some q:=by exact rfl):eM P V G (.tmp s) p:=(gj h).elim λk hk=>.imp (.tmp k hk) hq
theorem f1 {r:ResultVar} (hI:Inv c V [] G none_ a w) (h:eM P V G r p:=by exact rt Kw) (hr:fn.results=#[r]:=by exact rfl) (hn:∀k,¬c.jt k:=by exactλ_ h=>h):bodyPost P fn (bu c.M0 p c.w0) .ret a w:=dx hI hr h hn
variable {r1 r2:ResultVar}
theorem f2 (hI:Inv c V [] G none_ a w) (h1:eM P V G r1 p:=by exact rt Kw) (h2:eM P V G r2 q:=by exact rt Kw) (hr:fn.results=#[r1,r2]:=by exact rfl) (hn:∀k,¬c.jt k:=by exactλ_ h=>h):bodyPost P fn (bu c.M0 (fo p q) c.w0) .ret a w:=qY hI hr h1 h2 hn
theorem f3 {r3:ResultVar} {r:Pred} (hI:Inv c V [] G none_ a w) (h1:eM P V G r1 p:=by exact rt Kw) (h2:eM P V G r2 q:=by exact rt Kw) (h3:eM P V G r3 r:=by exact rt Kw) (hr:fn.results=#[r1,r2,r3]:=by exact rfl) (hn:∀k,¬c.jt k:=by exactλ_ h=>h):bodyPost P fn (bu c.M0 (Bi p q r) c.w0) .ret a w:=TU hI hr h1 h2 h3 hn
end
end Wx

namespace Wx
open Go Go.RowKit
inductive Zf
 |o (z:Zl)
 |m (l:List Zl)
def Zf.cs:Zf->List Value
 |.o z=>z.cs
 |.m l=>l.flatMap Zl.cs
def Zf.fd:Zf->Fd
 |.o z=>z.fd
 |.m l=>⟨true,(l.flatMap Zl.cs).length,pS (l.map Zl.fd)⟩
def Zf.size:Zf->Nat
 |.o .r|.o .f=>3
 |.o _=>1
 |.m l=>(l.flatMap Zl.cs).length
theorem SI (w:World):∀l:List Zf,aJ (l.map Zf.fd) w (l.flatMap Zf.cs):=by
 intro l
 induction l with
 |nil=>rfl
 |cons z l ih=>
  cases z with
  |o z=>
   have h:=NH w [z]
   obtain⟨h1,h2,h3⟩:=h
   simp only[List.flatMap_cons,List.flatMap_nil,List.append_nil]at h1 h2 h3
   have h3:(Zl.cs z).drop (Zl.fd z).n=[]:=h3
   have e:(Zl.cs z).length=(Zl.fd z).n:=by cases z<;>rfl
   refine⟨?_,?_,?_⟩
   ·show(Zl.fd z).n<=(Zl.cs z++l.flatMap Zf.cs).length; rw[List.length_append]; omega
   ·show(Zl.fd z).p w (aA (Zl.fd z).agg ((Zl.cs z++l.flatMap Zf.cs).take (Zl.fd z).n))
    rw[List.take_append_of_le_length (by omega)]; exact h2
   ·show aJ (l.map Zf.fd) w ((Zl.cs z++l.flatMap Zf.cs).drop (Zl.fd z).n)
    rw[List.drop_append_of_le_length (by omega),h3]; exact ih
  |m zs=>
   refine⟨?_,?_,?_⟩
   ·show(zs.flatMap Zl.cs).length<=(zs.flatMap Zl.cs++l.flatMap Zf.cs).length; rw[List.length_append]; omega
   ·show pS (zs.map Zl.fd) w (aA true ((zs.flatMap Zl.cs++l.flatMap Zf.cs).take (zs.flatMap Zl.cs).length))
    rw[List.take_left']
    ·exact Dl zs w
    ·rfl
   ·show aJ (l.map Zf.fd) w ((zs.flatMap Zl.cs++l.flatMap Zf.cs).drop (zs.flatMap Zl.cs).length)
    rw[List.drop_left']
    ·exact ih
    ·rfl
def VQ:Nat->List Zf->List (Nat×Nat)
 |_,[]=>[]
 |o,z::l=>(o,z.size)::VQ (o+z.size) l
inductive kI:List Fd->List Fd->Prop
 |z:kI [] []
 |k {f:Fd} {fs hs:List Fd}:kI fs hs->kI (f::fs) (f::hs)
 |m {n:Nat} {gs fs hs r:List Fd}:kI fs hs->zR gs (some hs)=some r->kI (⟨true,n,pS gs⟩::fs) r
variable {fs hs:List Fd}
theorem kI.ok (h:kI fs hs):∀{w:World} {cs:List Value},aJ fs w cs->aJ hs w cs:=by
 induction h with
 |z=>exactλh=>h
 |k _ ih=>exact λ⟨h1,h2,h3⟩=>⟨h1,h2,ih h3⟩
 |m _ hc ih=>
  rintro w cs ⟨h1,⟨ds,e,h2⟩,h3⟩
  have e:=dF (show aA true (cs.take _)=aA true ds from e)
  subst e
  have:=yl hc h2 (ih h3)
  rwa [List.take_append_drop]at this
theorem kI.pS (h:kI fs hs):∀w v,Wx.pS fs w v->Wx.pS hs w v:=λ_ _ ⟨cs,e,hc⟩=>⟨cs,e,h.ok hc⟩
theorem Post.down {G:List bI} {i:Nat} {p q:Pred} (h:Post G i q) (hq:∀w v,p w v->q w v):Post G i p:=by
 cases h with
 |at_ k s r h hr=>exact .at_ k s r h λw v hp=>hr w v (hq w v hp)
 |none h=>exact .none h
section
variable {P:Program} {ops:Array Oper} {ms:List Nat} {c:eL} {V:List Vr} {A:List Al} {G:List bI} {i:Nat}{d:Nat} {x y z:Operand} {ty:TypeId} {pos:String} {aZ:Array Edge}
def Xw (fs:List Fd) (pf:Nat->Option (Nat×Nat)):Bool:=(List.range fs.length).all λk=>match fs[k]? with
 |some f=>pf k==some (bR fs k,f.n)
 |none=>true
variable {fs:List Fd} {pf:Nat->Option (Nat×Nat)}
theorem Py (h:Xw fs pf=true):∀(k:Nat) (f:Fd),fs[k]?=some f->pf k=some (bR fs k,f.n):=by
 intro k f hk
 have hlt:k<fs.length:=by
  rcases Nat.lt_or_ge k fs.length with h'|h'
  ·exact h'
  ·rw[List.getElem?_eq_none h']at hk; cases hk
 have:=List.all_eq_true.1 h k (List.mem_range.2 hlt)
 rw[hk]at this
 simpa using this
variable {T:TypeId} {parts:Array (Nat×Operand)} {gs:List Fd}
theorem Gd {z:List Value} {ps:List (Nat×Pred)} (ht:∀parts,P.built T parts=Instr.fill pf z.toArray parts) (KE:∀(k:Nat) (f:Fd),fs[k]?=some f->pf k=some (bR fs k,f.n)) (hz:∀w,aJ fs w z)
  (hps:bS ms G i fs parts.toList ps) (hg:nu fs ps=gs) (hp:Post G i (pS gs)):
  OpOk P ops ms c V A G i ⟨some d,.build T parts,ty,pos,aZ,none⟩:=
 dW rfl rfl rfl (.inl rfl) hp λL β a w hI hd=>by
  have key:∀(xs:List (Nat×Operand)) (ps:List (Nat×Pred)),bS ms G i fs xs ps->aL (own c V L β) (λw=>pH fs w (xs.map λq=>(q.1,a.eval q.2)) ps) w:=by
   intro xs
   induction xs with
   |nil=>intro ps h; cases ps<;>exactλ_ _=>h
   |cons q xs ih=>
    intro ps h
    obtain⟨j,x⟩:=q
    cases ps with
    |nil=>exact h.elim
    |cons r ps=>
     obtain⟨k,p⟩:=r
     obtain⟨⟨e,h1,h2⟩,h3⟩:=h
     exactλw' he=>⟨⟨e,h1.spec hI hd w' he,h2⟩,ih ps h3 w' he⟩
  have hb:=key _ _ hps
  obtain⟨cs',h1,h2,h3⟩:=yC (pl:=pf) _ _ fs z KE (hz w) hb.out
  refine⟨.agg cs'.toArray,w,?_,Below.refl _ _,λw' he=>?_⟩
  ·show(do pure (Next.value (<-Instr.build T (parts.map λ(i,x)=>(i,a.eval x))))).run P w=_
   have e:(parts.map λ(i,x)=>(i,a.eval x)).toList=parts.toList.map λq=>(q.1,a.eval q.2):=by simp
   rw[Sem.run_bind,run_build w T _ cs'.toArray (by rw[e,ht]; exact h1)]
   rfl
  ·rw[<-hg]
   exact oG (h3 w' (hz w') (hb w' he))
theorem bd {hs:List Fd} (l:List Zf) (ps:List (Nat×Pred)) (hps:bS ms G i (l.map Zf.fd) parts.toList ps:=by repeat' (first|exact trivial|refine⟨⟨rfl,Wx.hs,_,rfl,wg⟩,?_⟩))
  (hg:nu (l.map Zf.fd) ps=gs:=by exact rfl) (hF:kI gs hs:=by repeat' (first|exact kI.z|exact rfl|apply kI.m|apply kI.k)) (hp:Post G i (pS hs):=by exact pt rfl) (ht:∀parts,P.built T parts=Instr.fill (λi=>(VQ 0 l).toArray[i]?) (l.flatMap Zf.cs).toArray parts:=by(intro parts; kernel_rfl)) (KE:Xw (l.map Zf.fd) (λi=>(VQ 0 l).toArray[i]?)=true:=by kernel_rfl):
  OpOk P ops ms c V A G i ⟨some d,.build T parts,ty,pos,aZ,none⟩:=
 Gd ht (Py KE) (λw=>SI w l) hps hg (hp.down hF.pS)
theorem Jf {p q:Int} (B:Int) (h1:-B<=p) (h2:p<=B) (h3:-B<=q) (h4:q<=B):-(B*B)<=p*q/\p*q<=B*B:=by
 have a1:p.natAbs<=B.natAbs:=by omega
 have a2:q.natAbs<=B.natAbs:=by omega
 have a3:=Nat.mul_le_mul a1 a2
 rw[<-Int.natAbs_mul,<-Int.natAbs_mul]at a3
 have a4:((B*B).natAbs:Int)=B*B:=Int.natAbs_of_nonneg (Int.mul_nonneg (by omega) (by omega))
 omega
theorem lV {s:Nat} {v:Vr} {al:Al} {F:Rat->Pred} {j:Nat} {l:List Rat} (q:Nat) (ha:Kv ms i s A=some al:=by exact rfl) (hv:om al.var V=some v:=by exact rfl) (ho:cG ms i v=true:=by exact rfl) (dI:v.kd=.ptr:=by exact rfl) (hst:(v.st.all λq=>(ms.getD i 0).testBit q.1||(ms.getD q.1 0).testBit i)=true:=by kernel_rfl) (AA:v.agg=true:=by exact rfl)
  (hc:cont (λj=>(ms.getD i 0).testBit j) v.c0 v.st=pv (pV F j l):=by exact rfl) (hq:q<l.length:=by omega) (hoff:al.off=q*3:=by(dsimp only<;>omega)) (hlen:al.off+3<=v.n:=by(dsimp only<;>omega)) (hcd:al.cond:=by trivial) (hp:Post G i (pQ F j (l.getD q 0)):=by exact pt rfl) (ht:KI P T true 3=true:=by kernel_rfl):OpOk P ops ms c V A G i ⟨some d,.load T (.tmp s),ty,pos,aZ,none⟩:=
 mZ ha hv ho dI hst hc (dX ht) (by rw[AA]; exact Pw q hoff hq) hcd hp (decide_eq_true hlen)
end
end Wx

namespace Wx
open Go Go.RowKit
section
variable {ro:Option Nat} {ds:List Deferred} {P:Program} {Q:Exit->Act->World->Prop} {c:eL} {V:List Vr} {G:List bI} {a:Act} {w:World} {fn:Func}{id:Nat} {l:List Oper} {V1 V2:List Vr} {G1 G2:List bI}
theorem V8 (h:Inv c V [] G none_ a w) (ms:List Nat) (nv:List Vr) (A1:List Al) (ne:List bI) (hV:vT nv V V1) (hG:me ne G G1) (hs:oC P l.toArray ms c V1 A1 G1 0 l) (kV:fH V1 V2) (kG:aH G1 G2) (hk:∀a w,Inv c V2 [] G2 none_ a w->Q .normal a w) (hn:jF nv A1 ne=true:=by kernel_rfl) (hb:qB P c.N l ms V1 A1 G1=true:=by kernel_rfl) (hd:l.all iA=true:=by kernel_rfl):(Code.region id l.toArray true).ww ro ds P Q a w:=by
 unfold qB at hb
 simp only[Bool.and_eq_true,beq_iff_eq]at hb
 obtain⟨hm,hok,wm,hwf⟩:=hb
 exact Kr ms hm hok wm hwf hd (jf h hV hG hn) hs λa w hI=>hk a w (kZ hwf kV kG hI)
variable {y:Code}
theorem GX (h:Inv c V [] G none_ a w) (ms:List Nat) (nv:List Vr) (A1:List Al) (ne:List bI) (hV:vT nv V V1) (hG:me ne G G1) (hs:oC P l.toArray ms c V1 A1 G1 0 l) (kV:fH V1 V2) (kG:aH G1 G2) (hk:∀a w,Inv c V2 [] G2 none_ a w->y.ww ro ds P Q a w) (hn:jF nv A1 ne=true:=by kernel_rfl) (hb:qB P c.N l ms V1 A1 G1=true:=by kernel_rfl) (hd:l.all iA=true:=by kernel_rfl):(Code.seq (Code.region id l.toArray true) y).ww ro ds P Q a w:=
 aU (V8 h ms nv A1 ne hV hG hs kV kG hk hn hb hd)
theorem V9 (h:Inv c [] [] G none_ a w) (ms:List Nat) (ne:List bI) (hG:me ne G G1) (hs:oC P l.toArray ms c [] [] G1 0 l) (kG:aH G1 G2) (hk:∀a w,Inv c [] [] G2 none_ a w->Q .normal a w) (hn:jF [] [] ne=true:=by kernel_rfl) (hb:qB P c.N l ms [] [] G1=true:=by kernel_rfl) (hd:l.all iA=true:=by kernel_rfl):(Code.region id l.toArray true).ww ro ds P Q a w:=V8 h ms [] [] ne .z hG hs .z kG hk hn hb hd
theorem V7 (h:Inv c [] [] G none_ a w) (ms:List Nat) (ne:List bI) (hG:me ne G G1) (hs:oC P l.toArray ms c [] [] G1 0 l) (kG:aH G1 G2) (hk:∀a w,Inv c [] [] G2 none_ a w->y.ww ro ds P Q a w) (hn:jF [] [] ne=true:=by kernel_rfl) (hb:qB P c.N l ms [] [] G1=true:=by kernel_rfl) (hd:l.all iA=true:=by kernel_rfl):(Code.seq (Code.region id l.toArray true) y).ww ro ds P Q a w:=aU (V9 h ms ne hG hs kG hk hn hb hd)
theorem GY (h:Inv c V [] G none_ a w) (n:Nat) (nv:List Vr) (A1:List Al) (ne:List bI) (hV:vT nv V V1) (hG:me ne G G1) (hs:oC P l.toArray (tm n 0) c V1 A1 G1 0 l) (kV:fH V1 V2) (kG:aH G1 G2) (hk:∀a w,Inv c V2 [] G2 none_ a w->Q .normal a w) (hn:jF nv A1 ne=true:=by kernel_rfl) (hb:oH c.N l (tm n 0) V1 A1 G1=true:=by kernel_rfl) (hd:l.all iA=true:=by kernel_rfl):(Code.region id l.toArray false).ww ro ds P Q a w:=by
 unfold oH at hb
 simp only[Bool.and_eq_true,beq_iff_eq]at hb
 obtain⟨wm,hwf⟩:=hb
 exact Mu hwf hd (jf h hV hG hn) (by rw[wm]; exact hs) λa w hI=>hk a w (kZ hwf kV kG hI)
theorem dQ (h:Inv c V [] G none_ a w) (n:Nat) (nv:List Vr) (A1:List Al) (ne:List bI) (hV:vT nv V V1) (hG:me ne G G1) (hs:oC P l.toArray (tm n 0) c V1 A1 G1 0 l) (kV:fH V1 V2) (kG:aH G1 G2) (hk:∀a w,Inv c V2 [] G2 none_ a w->y.ww ro ds P Q a w) (hn:jF nv A1 ne=true:=by kernel_rfl) (hb:oH c.N l (tm n 0) V1 A1 G1=true:=by kernel_rfl) (hd:l.all iA=true:=by kernel_rfl):(Code.seq (Code.region id l.toArray false) y).ww ro ds P Q a w:=
 aU (GY h n nv A1 ne hV hG hs kV kG hk hn hb hd)
theorem Kq (h:Inv c [] [] G none_ a w) (n:Nat) (ne:List bI) (hG:me ne G G1) (hs:oC P l.toArray (tm n 0) c [] [] G1 0 l) (kG:aH G1 G2) (hk:∀a w,Inv c [] [] G2 none_ a w->Q .normal a w) (hn:jF [] [] ne=true:=by kernel_rfl) (hb:oH c.N l (tm n 0) [] [] G1=true:=by kernel_rfl) (hd:l.all iA=true:=by kernel_rfl):(Code.region id l.toArray false).ww ro ds P Q a w:=GY h n [] [] ne .z hG hs .z kG hk hn hb hd
theorem eu (h:Inv c [] [] G none_ a w) (n:Nat) (ne:List bI) (hG:me ne G G1) (hs:oC P l.toArray (tm n 0) c [] [] G1 0 l) (kG:aH G1 G2) (hk:∀a w,Inv c [] [] G2 none_ a w->y.ww ro ds P Q a w) (hn:jF [] [] ne=true:=by kernel_rfl) (hb:oH c.N l (tm n 0) [] [] G1=true:=by kernel_rfl) (hd:l.all iA=true:=by kernel_rfl):(Code.seq (Code.region id l.toArray false) y).ww ro ds P Q a w:=aU (Kq h n ne hG hs kG hk hn hb hd)
variable {s:Nat}
theorem pU {v:Value} (hI:Inv c V [] G none_ a w) (hk:iW s G=some (cI v)):a.eval (.tmp s)=v:=by
 obtain⟨k,h⟩:=gj hk
 exact hI.get k h
variable {b:Bool} {x:Code}
theorem Kl (hI:Inv c V [] G none_ a w) (ht:b=true->x.ww ro ds P Q a w) (hf:b=false->y.ww ro ds P Q a w) (hk:iW s G=some (pB b):=by exact rfl):(Code.cond (.tmp s) x y).ww ro ds P Q a w:=tq (pU hI hk) ht hf
theorem sC {φ:Prop} [Decidable φ] {x y:Code} (hI:Inv c V [] G none_ a w) (ht:φ->x.ww ro ds P Q a w) (hf:¬φ->y.ww ro ds P Q a w) (hk:iW s G=some (pB (decide φ)):=by exact rfl):(Code.cond (.tmp s) x y).ww ro ds P Q a w:=tq (pU hI hk) (λh=>ht (of_decide_eq_true h)) λh=>hf (of_decide_eq_false h)
theorem ZW (hI:Inv c V [] G none_ a w) (hb:b=true) (ht:x.ww ro ds P Q a w) (hk:iW s G=some (pB b):=by exact rfl):(Code.cond (.tmp s) x y).ww ro ds P Q a w:=tq (pU hI hk) (λ_=>ht) λh=>by rw[hb]at h; cases h
theorem ZV (hI:Inv c V [] G none_ a w) (hb:b=false) (hf:y.ww ro ds P Q a w) (hk:iW s G=some (pB b):=by exact rfl):(Code.cond (.tmp s) x y).ww ro ds P Q a w:=tq (pU hI hk) (λh=>by rw[hb]at h; cases h) λ_=>hf
theorem GV {ι:Type} {C:Code} (VF:List Vr) (GF:List bI) (V1:ι->List Vr) (G1:ι->List bI) (φ:ι->Prop) (μ:ι->Nat) (k0:ι) (h0:φ k0) (hI:Inv c V [] G none_ a w) (hV:NJ V (VF++V1 k0)) (hG:NI G (GF++G1 k0))
  (round:∀k a w,φ k->Inv c (VF++V1 k) [] (GF++G1 k) none_ a w->C.ww ro ds P (Exit.then (λa w=>∃k',(φ k'/\Inv c (VF++V1 k') [] (GF++G1 k') none_ a w)/\μ k'<μ k) Q) a w):(Code.loop C).ww ro ds P Q a w:=
 Mt (λk a w=>φ k/\Inv c (VF++V1 k) [] (GF++G1 k) none_ a w) μ k0 ⟨h0,hI.cv hV hG⟩ λk a w h=>round k a w h.1 h.2
variable {p q:Pred}
theorem pC (h:iW s G=some q:=by exact rfl) (hq:∀w v,q w v->p w v:=by exact Kw):eM P V G (.tmp s) p:=rt hq h
theorem BQ {x:Vr} {T:Nat} (h:om s V=some x:=by exact rfl) (hs:x.slot=s:=by exact rfl) (hb:live none_ x=true:=by exact rfl) (dI:x.kd=.ptr:=by exact rfl) (hc:cont none_ x.c0 x.st=pv q:=by exact rfl) (hq:∀w v,q w v->p w v:=by exact Kw) (ht:KI P T x.agg x.n=true:=by kernel_rfl):eM P V G (.cell s T) p:=(gw h).1.elim λk hk=>.imp (.cell k hk hb dI hs (dX ht) hc) hq
end
section
variable {P:Program} {w:World} {fn:Func}{f:FuncId} {C:Code} {M:Nat->Nat->Prop} {p:Pred} {N:Nat}
theorem mE {vs:List Value} {G:List bI} (hf:P.funcs[f]?=some fn) (hb:fn.body=some C) (hN:fn.ntmps=N) (hlen:decide (vs.length<=N)=true) (hM:dc M w) (hG:ck M w vs G)
  (h:∀a,Inv ⟨N,w,M,λ_=>False⟩ [] [] G none_ a w->C.ww none [] P (bodyPost P fn (bu M p w)) a w):Calls P f vs.toArray w (bu M p w):=
 aQ hf hb hN hlen hM hG λa hI=>(wpIn_wide (n:=0)).1 (wpIn_mono (h a hI 0) λe a' w' ⟨a0,e0,h0⟩=>by subst e0; exact h0)
theorem SH (hf:P.funcs[f]?=some fn) (hb:fn.body=some C) (hN:fn.ntmps=N) (hlen:decide (([]:List Value).length<=N)=true) (hM:dc M w) (h:∀a,Inv ⟨N,w,M,λ_=>False⟩ [] [] [] none_ a w->C.ww none [] P (bodyPost P fn (bu M p w)) a w):Calls P f #[] w (bu M p w):=
 mE (vs:=([]:List Value)) hf hb hN hlen hM (show ck M w ([]:List Value) []from trivial) h
variable {v0:Value} {p0:Pred}
theorem Dj (hf:P.funcs[f]?=some fn) (hb:fn.body=some C) (hN:fn.ntmps=N) (hlen:decide ([v0].length<=N)=true) (hM:dc M w) (h0:aL M (λw=>p0 w v0) w) (h:∀a,Inv ⟨N,w,M,λ_=>False⟩ [] [] [Uz 0 p0] none_ a w->C.ww none [] P (bodyPost P fn (bu M p w)) a w):Calls P f #[v0] w (bu M p w):=
 mE (vs:=[v0]) hf hb hN hlen hM (show ck M w [v0] [Uz 0 p0]from⟨⟨rfl,_,rfl,h0⟩,trivial⟩) h
variable {v1:Value} {p1:Pred}
theorem Dk (hf:P.funcs[f]?=some fn) (hb:fn.body=some C) (hN:fn.ntmps=N) (hlen:decide ([v0,v1].length<=N)=true) (hM:dc M w) (h0:aL M (λw=>p0 w v0) w) (h1:aL M (λw=>p1 w v1) w) (h:∀a,Inv ⟨N,w,M,λ_=>False⟩ [] [] [Uz 0 p0,Uz 1 p1] none_ a w->C.ww none [] P (bodyPost P fn (bu M p w)) a w):Calls P f #[v0,v1] w (bu M p w):=
 mE (vs:=[v0,v1]) hf hb hN hlen hM (show ck M w [v0,v1] [Uz 0 p0,Uz 1 p1]from⟨⟨rfl,_,rfl,h0⟩,⟨rfl,_,rfl,h1⟩,trivial⟩) h
variable {v2:Value} {p2:Pred}
theorem PS (hf:P.funcs[f]?=some fn) (hb:fn.body=some C) (hN:fn.ntmps=N) (hlen:decide ([v0,v1,v2].length<=N)=true) (hM:dc M w) (h0:aL M (λw=>p0 w v0) w) (h1:aL M (λw=>p1 w v1) w) (h2:aL M (λw=>p2 w v2) w) (h:∀a,Inv ⟨N,w,M,λ_=>False⟩ [] [] [Uz 0 p0,Uz 1 p1,Uz 2 p2] none_ a w->C.ww none [] P (bodyPost P fn (bu M p w)) a w):Calls P f #[v0,v1,v2] w (bu M p w):=
 mE (vs:=[v0,v1,v2]) hf hb hN hlen hM (show ck M w [v0,v1,v2] [Uz 0 p0,Uz 1 p1,Uz 2 p2]from⟨⟨rfl,_,rfl,h0⟩,⟨rfl,_,rfl,h1⟩,⟨rfl,_,rfl,h2⟩,trivial⟩) h
theorem PT {v3:Value} {p3:Pred} (hf:P.funcs[f]?=some fn) (hb:fn.body=some C) (hN:fn.ntmps=N) (hlen:decide ([v0,v1,v2,v3].length<=N)=true) (hM:dc M w) (h0:aL M (λw=>p0 w v0) w) (h1:aL M (λw=>p1 w v1) w) (h2:aL M (λw=>p2 w v2) w) (h3:aL M (λw=>p3 w v3) w) (h:∀a,Inv ⟨N,w,M,λ_=>False⟩ [] [] [Uz 0 p0,Uz 1 p1,Uz 2 p2,Uz 3 p3] none_ a w->C.ww none [] P (bodyPost P fn (bu M p w)) a w):Calls P f #[v0,v1,v2,v3] w (bu M p w):=
 mE (vs:=[v0,v1,v2,v3]) hf hb hN hlen hM (show ck M w [v0,v1,v2,v3] [Uz 0 p0,Uz 1 p1,Uz 2 p2,Uz 3 p3]from⟨⟨rfl,_,rfl,h0⟩,⟨rfl,_,rfl,h1⟩,⟨rfl,_,rfl,h2⟩,⟨rfl,_,rfl,h3⟩,trivial⟩) h
end
abbrev K0 (P:Program) (f:FuncId) (p:Pred):Prop:=∀(M:Nat->Nat->Prop) (w:World),dc M w->Calls P f #[] w (bu M p w)
abbrev K1 (P:Program) (f:FuncId) (p0 p:Pred):Prop:=∀(M:Nat->Nat->Prop) (w:World) (v0:Value),dc M w->aL M (λw=>p0 w v0) w->Calls P f #[v0] w (bu M p w)
abbrev K2 (P:Program) (f:FuncId) (p0 p1 p:Pred):Prop:=∀(M:Nat->Nat->Prop) (w:World) (v0 v1:Value),dc M w->aL M (λw=>p0 w v0) w->aL M (λw=>p1 w v1) w->Calls P f #[v0,v1] w (bu M p w)
abbrev K3 (P:Program) (f:FuncId) (p0 p1 p2 p:Pred):Prop:=∀(M:Nat->Nat->Prop) (w:World) (v0 v1 v2:Value),dc M w->aL M (λw=>p0 w v0) w->aL M (λw=>p1 w v1) w->aL M (λw=>p2 w v2) w->Calls P f #[v0,v1,v2] w (bu M p w)
abbrev K4 (P:Program) (f:FuncId) (p0 p1 p2 p3 p:Pred):Prop:=∀(M:Nat->Nat->Prop) (w:World) (v0 v1 v2 v3:Value),dc M w->aL M (λw=>p0 w v0) w->aL M (λw=>p1 w v1) w->aL M (λw=>p2 w v2) w->aL M (λw=>p3 w v3) w->Calls P f #[v0,v1,v2,v3] w (bu M p w)
end Wx
