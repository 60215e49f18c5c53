import Derived.Test.YtocboimkilkklaaGreatJRC22
namespace Wx
open Go Go.RowKit
abbrev Uc (i s:Nat) (p:Pred):bf:=⟨some i,none,s,p⟩
abbrev Uz (s:Nat) (p:Pred):bf:=⟨none,none,s,p⟩
variable {p q:Pred}
theorem JW (h:∀w v,p w v->q w v:=by
 first
 |exact uz (by omega)
 |exact AW (by omega)
 |exact mc.pV (by repeat' (first|exact mc.z|refine mc.c (by omega) ?_))
 |exact dB (by omega)
 |exactλ_ _ h=>h
 |exact lX rfl (by omega)
 |exact jM rfl (by omega)):∀w v,p w v->q w v:=h
def Nj (G:List bf):List bf->Prop
 |[]=>True
 |e::es=>((e.tag=none/\e.till=none)/\∃p:Pred,(iP e.slot G=some p\/∃k:Nat,G[k]?=some ⟨none,none,e.slot,p⟩)/\∀w v,p w v->e.p w v)/\Nj G es
variable {G:List bf}
theorem Nj.ok:∀{G':List bf},Nj G G'->we G G'
 |[],_=>trivial
 |_::_,⟨⟨⟨h1,h2⟩,p,h3,h4⟩,h5⟩=>⟨⟨h1,h2,(h3.elim (λh3=>fE h3) λh3=>h3).elim λk hk=>⟨k,p,hk,h4⟩⟩,Nj.ok h5⟩
def Nk (V:List Vr):List Vr->Prop
 |[]=>True
 |x::xs=>(∃p:Rel,mh x.id V=some ⟨x.id,x.slot,none,none,x.kd,x.T,x.n,x.agg,p,[]⟩/\(x.born=none/\x.dead=none/\x.st=[])/\∀F w v,p F w v->x.c0 F w v)/\Nk V xs
variable {V:List Vr}
theorem Nk.ok:∀{V':List Vr},Nk V V'->wj V V'
 |[],_=>trivial
 |_::_,⟨⟨p,h1,h2,h3⟩,h4⟩=>⟨(fM h1).1.elim λk hk=>⟨k,_,p,hk,h2,rfl,h3⟩,Nk.ok h4⟩
variable {s:Nat}
theorem gc (h:iP s G=some p:=by exact rfl) (hq:∀w v,p w v->q w v:=by exact JW):((Uz s q).tag=none/\(Uz s q).till=none)/\∃p:Pred,(iP (Uz s q).slot G=some p\/∃k:Nat,G[k]?=some ⟨none,none,(Uz s q).slot,p⟩)/\∀w v,p w v->(Uz s q).p w v:=⟨⟨rfl,rfl⟩,p,.inl h,hq⟩
theorem gi (h:iP s G=some p:=by exact rfl):((Uz s p).tag=none/\(Uz s p).till=none)/\∃q:Pred,(iP (Uz s p).slot G=some q\/∃k:Nat,G[k]?=some ⟨none,none,(Uz s p).slot,q⟩)/\∀w v,q w v->(Uz s p).p w v:=⟨⟨rfl,rfl⟩,p,.inl h,λ_ _ h=>h⟩
theorem gq (n:Nat) (h:G[n]?=some ⟨none,none,s,q⟩:=by exact rfl):((Uz s q).tag=none/\(Uz s q).till=none)/\∃p:Pred,(iP (Uz s q).slot G=some p\/∃k:Nat,G[k]?=some ⟨none,none,(Uz s q).slot,p⟩)/\∀w v,p w v->(Uz s q).p w v:=⟨⟨rfl,rfl⟩,q,.inr ⟨n,h⟩,λ_ _ h=>h⟩
abbrev Vz (i s:Nat) (T:TypeId) (n:Nat) (ag:Bool) (p:Pred):Vr:=⟨i,s,none,none,.ptr,T,n,ag,pv p,[]⟩
variable {i T n:Nat} {ag:Bool}
theorem vc (h:mh i V=some (Vz i s T n ag p):=by exact rfl) (hq:∀w v,p w v->q w v:=by exact JW):∃r:Rel,mh (Vz i s T n ag q).id V=some ⟨(Vz i s T n ag q).id,(Vz i s T n ag q).slot,none,none,(Vz i s T n ag q).kd,(Vz i s T n ag q).T,(Vz i s T n ag q).n,(Vz i s T n ag q).agg,r,[]⟩/\((Vz i s T n ag q).born=none/\(Vz i s T n ag q).dead=none/\(Vz i s T n ag q).st=[])/\∀F w v,r F w v->(Vz i s T n ag q).c0 F w v:=⟨pv p,h,⟨rfl,rfl,rfl⟩,λ_=>hq⟩
theorem vi (h:mh i V=some (Vz i s T n ag p):=by exact rfl):∃r:Rel,mh (Vz i s T n ag p).id V=some ⟨(Vz i s T n ag p).id,(Vz i s T n ag p).slot,none,none,(Vz i s T n ag p).kd,(Vz i s T n ag p).T,(Vz i s T n ag p).n,(Vz i s T n ag p).agg,r,[]⟩/\((Vz i s T n ag p).born=none/\(Vz i s T n ag p).dead=none/\(Vz i s T n ag p).st=[])/\∀F w v,r F w v->(Vz i s T n ag p).c0 F w v:=⟨_,h,⟨rfl,rfl,rfl⟩,λ_ _ _ h=>h⟩
theorem vC (hq:∀w v,p w v->q w v) (h:mh i V=some (Vz i s T n ag p):=by exact rfl):∃r:Rel,mh (Vz i s T n ag q).id V=some ⟨(Vz i s T n ag q).id,(Vz i s T n ag q).slot,none,none,(Vz i s T n ag q).kd,(Vz i s T n ag q).T,(Vz i s T n ag q).n,(Vz i s T n ag q).agg,r,[]⟩/\((Vz i s T n ag q).born=none/\(Vz i s T n ag q).dead=none/\(Vz i s T n ag q).st=[])/\∀F w v,r F w v->(Vz i s T n ag q).c0 F w v:=⟨pv p,h,⟨rfl,rfl,rfl⟩,λ_=>hq⟩
section
variable {P:Program} {w:World} {fn:Func}
end
section
variable {P:Program} {Q:Exit->Act->World->Prop} {c:dS} {V:List Vr} {G:List bf} {a:Act} {w:World} {fn:Func}
theorem Inv.cv {V':List Vr} {G':List bf} (h:Inv c V [] G none_ a w) (hV:Nk V V') (hG:Nj G G'):Inv c V' [] G' none_ a w:=h.conv hV.ok hG.ok
variable {id:Nat} {l:List Oper} {V1 V2:List Vr} {G1 G2:List bf}
theorem SQ {y:Code} (h:Inv c V [] G none_ a w) (ms:List Nat) (nv:List Vr) (A1:List Al) (ne:List bf) (hV:rQ nv V V1) (hG:kA ne G G1) (hs:mm P l.toArray ms c V1 A1 G1 0 l) (kV:dX V1 V2) (kG:az G1 G2) (hk:∀a w,Inv c V2 [] G2 none_ a w->y.wp P Q a w) (hn:iF nv A1 ne=true:=by kernel_rfl) (hb:qh P c.N l ms V1 A1 G1=true:=by kernel_rfl):(Code.seq (Code.region id l.toArray true) y).wp P Q a w:=
 RY h nv A1 ne hV hG hn ms hb hs kV kG hk
theorem PE (h:Inv c V [] G none_ a w) (n:Nat) (nv:List Vr) (A1:List Al) (ne:List bf) (hV:rQ nv V V1) (hG:kA ne G G1) (hs:mm P l.toArray (tm n 0) c V1 A1 G1 0 l) (kV:dX V1 V2) (kG:az G1 G2) (hk:∀a w,Inv c V2 [] G2 none_ a w->Q .normal a w) (hn:iF nv A1 ne=true:=by kernel_rfl) (hb:oa c.N l (tm n 0) V1 A1 G1=true:=by kernel_rfl):(Code.region id l.toArray false).wp P Q a w:=
 Nc h nv A1 ne hV hG hn (tm n 0) hb hs kV kG hk
theorem AE {ι:Type} {V1:ι->List Vr} {G1:ι->List bf} {φ:ι->Prop} {μ:ι->Nat} {k:ι} (k':ι) (h:φ k') (hI:Inv c V [] G none_ a w) (hV:Nk V (V1 k')) (hG:Nj G (G1 k')) (hm:μ k'<μ k):∃k',(φ k'/\Inv c (V1 k') [] (G1 k') none_ a w)/\μ k'<μ k:=⟨k',⟨h,hI.cv hV hG⟩,hm⟩
variable {p q:Pred}
theorem rt {s:Nat} (hq:∀w v,q w v->p w v) (h:iP s G=some q:=by exact rfl):eu P V G (.tmp s) p:=(fE h).elim λk hk=>.imp (.tmp k hk) hq
theorem f1 {r:ResultVar} (hI:Inv c V [] G none_ a w) (h:eu P V G r p:=by exact rt JW) (hr:fn.results=#[r]:=by exact rfl) (hn:∀k,¬c.iQ k:=by exactλ_ h=>h):bodyPost P fn (bE c.M0 p c.w0) .ret a w:=dD hI hr h hn
variable {r1 r2:ResultVar}
theorem f2 (hI:Inv c V [] G none_ a w) (h1:eu P V G r1 p:=by exact rt JW) (h2:eu P V G r2 q:=by exact rt JW) (hr:fn.results=#[r1,r2]:=by exact rfl) (hn:∀k,¬c.iQ k:=by exactλ_ h=>h):bodyPost P fn (bE c.M0 (gh p q) c.w0) .ret a w:=yl hI hr h1 h2 hn
theorem f3 {r3:ResultVar} {r:Pred} (hI:Inv c V [] G none_ a w) (h1:eu P V G r1 p:=by exact rt JW) (h2:eu P V G r2 q:=by exact rt JW) (h3:eu P V G r3 r:=by exact rt JW) (hr:fn.results=#[r1,r2,r3]:=by exact rfl) (hn:∀k,¬c.iQ k:=by exactλ_ h=>h):bodyPost P fn (bE c.M0 (uC p q r) c.w0) .ret a w:=BZ hI hr h1 h2 h3 hn
end
end Wx

namespace Wx
open Go Go.RowKit
inductive Zf
 |o (z:Zl)
 |m (l:List Zl)
def Zf.cs:Zf->List Value
 |.o z=>z.cs
 |.m l=>l.flatMap Zl.cs
def Zf.fd:Zf->Fd
 |.o z=>z.fd
 |.m l=>⟨true,(l.flatMap Zl.cs).length,pS (l.map Zl.fd)⟩
def Zf.size:Zf->Nat
 |.o .r|.o .f=>3
 |.o _=>1
 |.m l=>(l.flatMap Zl.cs).length
theorem R9 (w:World):∀l:List Zf,aG (l.map Zf.fd) w (l.flatMap Zf.cs):=by
 intro l
 induction l with
 |nil=>rfl
 |cons z l ih=>
  cases z with
  |o z=>
   have h:=Ni w [z]
   obtain⟨h1,h2,h3⟩:=h
   simp only[List.flatMap_cons,List.flatMap_nil,List.append_nil]at h1 h2 h3
   have h3:(Zl.cs z).drop (Zl.fd z).n=[]:=h3
   have e:(Zl.cs z).length=(Zl.fd z).n:=by cases z<;>rfl
   refine⟨?_,?_,?_⟩
   ·show(Zl.fd z).n<=(Zl.cs z++l.flatMap Zf.cs).length; rw[List.length_append]; omega
   ·show(Zl.fd z).p w (aq (Zl.fd z).agg ((Zl.cs z++l.flatMap Zf.cs).take (Zl.fd z).n))
    rw[List.take_append_of_le_length (by omega)]; exact h2
   ·show aG (l.map Zf.fd) w ((Zl.cs z++l.flatMap Zf.cs).drop (Zl.fd z).n)
    rw[List.drop_append_of_le_length (by omega),h3]; exact ih
  |m zs=>
   refine⟨?_,?_,?_⟩
   ·show(zs.flatMap Zl.cs).length<=(zs.flatMap Zl.cs++l.flatMap Zf.cs).length; rw[List.length_append]; omega
   ·show pS (zs.map Zl.fd) w (aq true ((zs.flatMap Zl.cs++l.flatMap Zf.cs).take (zs.flatMap Zl.cs).length))
    rw[List.take_left']
    ·exact zf zs w
    ·rfl
   ·show aG (l.map Zf.fd) w ((zs.flatMap Zl.cs++l.flatMap Zf.cs).drop (zs.flatMap Zl.cs).length)
    rw[List.drop_left']
    ·exact ih
    ·rfl
def Vv:Nat->List Zf->List (Nat×Nat)
 |_,[]=>[]
 |o,z::l=>(o,z.size)::Vv (o+z.size) l
inductive kz:List Fd->List Fd->Prop
 |z:kz [] []
 |k {f:Fd} {fs hs:List Fd}:kz fs hs->kz (f::fs) (f::hs)
 |m {n:Nat} {gs fs hs r:List Fd}:kz fs hs->zF gs (some hs)=some r->kz (⟨true,n,pS gs⟩::fs) r
variable {fs hs:List Fd}
theorem kz.ok (h:kz fs hs):∀{w:World} {cs:List Value},aG fs w cs->aG hs w cs:=by
 induction h with
 |z=>exactλh=>h
 |k _ ih=>exact λ⟨h1,h2,h3⟩=>⟨h1,h2,ih h3⟩
 |m _ hc ih=>
  rintro w cs ⟨h1,⟨ds,e,h2⟩,h3⟩
  have e:=cT (show aq true (cs.take _)=aq true ds from e)
  subst e
  have:=xU hc h2 (ih h3)
  rwa [List.take_append_drop]at this
theorem kz.pS (h:kz fs hs):∀w v,Wx.pS fs w v->Wx.pS hs w v:=λ_ _ ⟨cs,e,hc⟩=>⟨cs,e,h.ok hc⟩
theorem Post.down {G:List bf} {i:Nat} {p q:Pred} (h:Post G i q) (hq:∀w v,p w v->q w v):Post G i p:=by
 cases h with
 |at_ k s r h hr=>exact .at_ k s r h λw v hp=>hr w v (hq w v hp)
 |none h=>exact .none h
section
variable {P:Program} {ops:Array Oper} {ms:List Nat} {c:dS} {V:List Vr} {A:List Al} {G:List bf} {i:Nat}{d:Nat} {x y z:Operand} {ty:TypeId} {pos:String} {aJ:Array Edge}
def Xi (fs:List Fd) (pf:Nat->Option (Nat×Nat)):Bool:=(List.range fs.length).all λk=>match fs[k]? with
 |some f=>pf k==some (bA fs k,f.n)
 |none=>true
variable {fs:List Fd} {pf:Nat->Option (Nat×Nat)}
theorem O6 (h:Xi fs pf=true):∀(k:Nat) (f:Fd),fs[k]?=some f->pf k=some (bA fs k,f.n):=by
 intro k f hk
 have hlt:k<fs.length:=by
  rcases Nat.lt_or_ge k fs.length with h'|h'
  ·exact h'
  ·rw[List.getElem?_eq_none h']at hk; cases hk
 have:=List.all_eq_true.1 h k (List.mem_range.2 hlt)
 rw[hk]at this
 simpa using this
variable {T:TypeId} {parts:Array (Nat×Operand)} {gs:List Fd}
theorem FQ {z:List Value} {ps:List (Nat×Pred)} (ht:∀parts,P.built T parts=Instr.fill pf z.toArray parts) (J3:∀(k:Nat) (f:Fd),fs[k]?=some f->pf k=some (bA fs k,f.n)) (hz:∀w,aG fs w z)
  (hps:cA ms G i fs parts.toList ps) (hg:ni fs ps=gs) (hp:Post G i (pS gs)):
  OpOk P ops ms c V A G i ⟨some d,.build T parts,ty,pos,aJ,none⟩:=
 dg rfl rfl rfl (.inl rfl) hp λL β a w hI hd=>by
  have key:∀(xs:List (Nat×Operand)) (ps:List (Nat×Pred)),cA ms G i fs xs ps->aP (own c V L β) (λw=>oW fs w (xs.map λq=>(q.1,a.eval q.2)) ps) w:=by
   intro xs
   induction xs with
   |nil=>intro ps h; cases ps<;>exactλ_ _=>h
   |cons q xs ih=>
    intro ps h
    obtain⟨j,x⟩:=q
    cases ps with
    |nil=>exact h.elim
    |cons r ps=>
     obtain⟨k,p⟩:=r
     obtain⟨⟨e,h1,h2⟩,h3⟩:=h
     exactλw' he=>⟨⟨e,h1.spec hI hd w' he,h2⟩,ih ps h3 w' he⟩
  have hb:=key _ _ hps
  obtain⟨cs',h1,h2,h3⟩:=yj (pl:=pf) _ _ fs z J3 (hz w) hb.out
  refine⟨.agg cs'.toArray,w,?_,Below.refl _ _,λw' he=>?_⟩
  ·show(do pure (Next.value (<-Instr.build T (parts.map λ(i,x)=>(i,a.eval x))))).run P w=_
   have e:(parts.map λ(i,x)=>(i,a.eval x)).toList=parts.toList.map λq=>(q.1,a.eval q.2):=by simp
   rw[Sem.run_bind,run_build w T _ cs'.toArray (by rw[e,ht]; exact h1)]
   rfl
  ·rw[<-hg]
   exact AV (h3 w' (hz w') (hb w' he))
theorem bd {hs:List Fd} (l:List Zf) (ps:List (Nat×Pred)) (hps:cA ms G i (l.map Zf.fd) parts.toList ps:=by repeat' (first|exact trivial|refine⟨⟨rfl,Wx.hs,_,rfl,vF⟩,?_⟩))
  (hg:ni (l.map Zf.fd) ps=gs:=by exact rfl) (hF:kz gs hs:=by repeat' (first|exact kz.z|exact rfl|apply kz.m|apply kz.k)) (hp:Post G i (pS hs):=by exact pt rfl) (ht:∀parts,P.built T parts=Instr.fill (λi=>(Vv 0 l).toArray[i]?) (l.flatMap Zf.cs).toArray parts:=by(intro parts; kernel_rfl)) (J3:Xi (l.map Zf.fd) (λi=>(Vv 0 l).toArray[i]?)=true:=by kernel_rfl):
  OpOk P ops ms c V A G i ⟨some d,.build T parts,ty,pos,aJ,none⟩:=
 FQ ht (O6 J3) (λw=>R9 w l) hps hg (hp.down hF.pS)
theorem IK {p q:Int} (B:Int) (h1:-B<=p) (h2:p<=B) (h3:-B<=q) (h4:q<=B):-(B*B)<=p*q/\p*q<=B*B:=by
 have a1:p.natAbs<=B.natAbs:=by omega
 have a2:q.natAbs<=B.natAbs:=by omega
 have a3:=Nat.mul_le_mul a1 a2
 rw[<-Int.natAbs_mul,<-Int.natAbs_mul]at a3
 have a4:((B*B).natAbs:Int)=B*B:=Int.natAbs_of_nonneg (Int.mul_nonneg (by omega) (by omega))
 omega
theorem lV {s:Nat} {v:Vr} {al:Al} {F:Rat->Pred} {j:Nat} {l:List Rat} (q:Nat) (ha:JV ms i s A=some al:=by exact rfl) (hv:mh al.var V=some v:=by exact rfl) (ho:bS ms i v=true:=by exact rfl) (cI:v.kd=.ptr:=by exact rfl) (hst:(v.st.all λq=>(ms.getD i 0).testBit q.1||(ms.getD q.1 0).testBit i)=true:=by kernel_rfl) (Af:v.agg=true:=by exact rfl)
  (hc:cont (λj=>(ms.getD i 0).testBit j) v.c0 v.st=pv (pV F j l):=by exact rfl) (hq:q<l.length:=by omega) (hoff:al.off=q*3:=by(dsimp only<;>omega)) (hlen:al.off+3<=v.n:=by(dsimp only<;>omega)) (hcd:al.cond:=by trivial) (hp:Post G i (pQ F j (l.getD q 0)):=by exact pt rfl) (ht:J7 P T true 3=true:=by kernel_rfl):OpOk P ops ms c V A G i ⟨some d,.load T (.tmp s),ty,pos,aJ,none⟩:=
 mX ha hv ho cI hst hc (cV ht) (by rw[Af]; exact Jj q hoff hq) hcd hp (decide_eq_true hlen)
end
end Wx

namespace Wx
open Go Go.RowKit
section
variable {ro:Option Nat} {ds:List Deferred} {P:Program} {Q:Exit->Act->World->Prop} {c:dS} {V:List Vr} {G:List bf} {a:Act} {w:World} {fn:Func}{id:Nat} {l:List Oper} {V1 V2:List Vr} {G1 G2:List bf}
theorem VR (h:Inv c V [] G none_ a w) (ms:List Nat) (nv:List Vr) (A1:List Al) (ne:List bf) (hV:rQ nv V V1) (hG:kA ne G G1) (hs:mm P l.toArray ms c V1 A1 G1 0 l) (kV:dX V1 V2) (kG:az G1 G2) (hk:∀a w,Inv c V2 [] G2 none_ a w->Q .normal a w) (hn:iF nv A1 ne=true:=by kernel_rfl) (hb:qh P c.N l ms V1 A1 G1=true:=by kernel_rfl) (hd:l.all fH=true:=by kernel_rfl):(Code.region id l.toArray true).ww ro ds P Q a w:=by
 unfold qh at hb
 simp only[Bool.and_eq_true,beq_iff_eq]at hb
 obtain⟨hm,hok,rX,hwf⟩:=hb
 exact JR ms hm hok rX hwf hd (fT h hV hG hn) hs λa w hI=>hk a w (ic hwf kV kG hI)
variable {y:Code}
theorem EB (h:Inv c V [] G none_ a w) (ms:List Nat) (nv:List Vr) (A1:List Al) (ne:List bf) (hV:rQ nv V V1) (hG:kA ne G G1) (hs:mm P l.toArray ms c V1 A1 G1 0 l) (kV:dX V1 V2) (kG:az G1 G2) (hk:∀a w,Inv c V2 [] G2 none_ a w->y.ww ro ds P Q a w) (hn:iF nv A1 ne=true:=by kernel_rfl) (hb:qh P c.N l ms V1 A1 G1=true:=by kernel_rfl) (hd:l.all fH=true:=by kernel_rfl):(Code.seq (Code.region id l.toArray true) y).ww ro ds P Q a w:=
 aC (VR h ms nv A1 ne hV hG hs kV kG hk hn hb hd)
theorem VS (h:Inv c [] [] G none_ a w) (ms:List Nat) (ne:List bf) (hG:kA ne G G1) (hs:mm P l.toArray ms c [] [] G1 0 l) (kG:az G1 G2) (hk:∀a w,Inv c [] [] G2 none_ a w->Q .normal a w) (hn:iF [] [] ne=true:=by kernel_rfl) (hb:qh P c.N l ms [] [] G1=true:=by kernel_rfl) (hd:l.all fH=true:=by kernel_rfl):(Code.region id l.toArray true).ww ro ds P Q a w:=VR h ms [] [] ne .z hG hs .z kG hk hn hb hd
theorem VQ (h:Inv c [] [] G none_ a w) (ms:List Nat) (ne:List bf) (hG:kA ne G G1) (hs:mm P l.toArray ms c [] [] G1 0 l) (kG:az G1 G2) (hk:∀a w,Inv c [] [] G2 none_ a w->y.ww ro ds P Q a w) (hn:iF [] [] ne=true:=by kernel_rfl) (hb:qh P c.N l ms [] [] G1=true:=by kernel_rfl) (hd:l.all fH=true:=by kernel_rfl):(Code.seq (Code.region id l.toArray true) y).ww ro ds P Q a w:=aC (VS h ms ne hG hs kG hk hn hb hd)
theorem ve (h:Inv c V [] G none_ a w) (n:Nat) (nv:List Vr) (A1:List Al) (ne:List bf) (hV:rQ nv V V1) (hG:kA ne G G1) (hs:mm P l.toArray (tm n 0) c V1 A1 G1 0 l) (kV:dX V1 V2) (kG:az G1 G2) (hk:∀a w,Inv c V2 [] G2 none_ a w->Q .normal a w) (hn:iF nv A1 ne=true:=by kernel_rfl) (hb:oa c.N l (tm n 0) V1 A1 G1=true:=by kernel_rfl) (hd:l.all fH=true:=by kernel_rfl):(Code.region id l.toArray false).ww ro ds P Q a w:=by
 unfold oa at hb
 simp only[Bool.and_eq_true,beq_iff_eq]at hb
 obtain⟨rX,hwf⟩:=hb
 exact Mb hwf hd (fT h hV hG hn) (by rw[rX]; exact hs) λa w hI=>hk a w (ic hwf kV kG hI)
theorem bZ (h:Inv c V [] G none_ a w) (n:Nat) (nv:List Vr) (A1:List Al) (ne:List bf) (hV:rQ nv V V1) (hG:kA ne G G1) (hs:mm P l.toArray (tm n 0) c V1 A1 G1 0 l) (kV:dX V1 V2) (kG:az G1 G2) (hk:∀a w,Inv c V2 [] G2 none_ a w->y.ww ro ds P Q a w) (hn:iF nv A1 ne=true:=by kernel_rfl) (hb:oa c.N l (tm n 0) V1 A1 G1=true:=by kernel_rfl) (hd:l.all fH=true:=by kernel_rfl):(Code.seq (Code.region id l.toArray false) y).ww ro ds P Q a w:=
 aC (ve h n nv A1 ne hV hG hs kV kG hk hn hb hd)
theorem JQ (h:Inv c [] [] G none_ a w) (n:Nat) (ne:List bf) (hG:kA ne G G1) (hs:mm P l.toArray (tm n 0) c [] [] G1 0 l) (kG:az G1 G2) (hk:∀a w,Inv c [] [] G2 none_ a w->Q .normal a w) (hn:iF [] [] ne=true:=by kernel_rfl) (hb:oa c.N l (tm n 0) [] [] G1=true:=by kernel_rfl) (hd:l.all fH=true:=by kernel_rfl):(Code.region id l.toArray false).ww ro ds P Q a w:=ve h n [] [] ne .z hG hs .z kG hk hn hb hd
theorem dR (h:Inv c [] [] G none_ a w) (n:Nat) (ne:List bf) (hG:kA ne G G1) (hs:mm P l.toArray (tm n 0) c [] [] G1 0 l) (kG:az G1 G2) (hk:∀a w,Inv c [] [] G2 none_ a w->y.ww ro ds P Q a w) (hn:iF [] [] ne=true:=by kernel_rfl) (hb:oa c.N l (tm n 0) [] [] G1=true:=by kernel_rfl) (hd:l.all fH=true:=by kernel_rfl):(Code.seq (Code.region id l.toArray false) y).ww ro ds P Q a w:=aC (JQ h n ne hG hs kG hk hn hb hd)
variable {s:Nat}
theorem pz {v:Value} (hI:Inv c V [] G none_ a w) (hk:iP s G=some (bY v)):a.eval (.tmp s)=v:=by
 obtain⟨k,h⟩:=fE hk
 exact hI.get k h
variable {b:Bool} {x:Code}
theorem Ez (hI:Inv c V [] G none_ a w) (ht:b=true->x.ww ro ds P Q a w) (hf:b=false->y.ww ro ds P Q a w) (hk:iP s G=some (pB b):=by exact rfl):(Code.cond (.tmp s) x y).ww ro ds P Q a w:=sU (pz hI hk) ht hf
theorem nX {φ:Prop} [Decidable φ] {x y:Code} (hI:Inv c V [] G none_ a w) (ht:φ->x.ww ro ds P Q a w) (hf:¬φ->y.ww ro ds P Q a w) (hk:iP s G=some (pB (decide φ)):=by exact rfl):(Code.cond (.tmp s) x y).ww ro ds P Q a w:=sU (pz hI hk) (λh=>ht (of_decide_eq_true h)) λh=>hf (of_decide_eq_false h)
theorem ZF (hI:Inv c V [] G none_ a w) (hb:b=true) (ht:x.ww ro ds P Q a w) (hk:iP s G=some (pB b):=by exact rfl):(Code.cond (.tmp s) x y).ww ro ds P Q a w:=sU (pz hI hk) (λ_=>ht) λh=>by rw[hb]at h; cases h
theorem ZE (hI:Inv c V [] G none_ a w) (hb:b=false) (hf:y.ww ro ds P Q a w) (hk:iP s G=some (pB b):=by exact rfl):(Code.cond (.tmp s) x y).ww ro ds P Q a w:=sU (pz hI hk) (λh=>by rw[hb]at h; cases h) λ_=>hf
theorem C5 {ι:Type} {C:Code} (VF:List Vr) (GF:List bf) (V1:ι->List Vr) (G1:ι->List bf) (φ:ι->Prop) (μ:ι->Nat) (k0:ι) (h0:φ k0) (hI:Inv c V [] G none_ a w) (hV:Nk V (VF++V1 k0)) (hG:Nj G (GF++G1 k0))
  (round:∀k a w,φ k->Inv c (VF++V1 k) [] (GF++G1 k) none_ a w->C.ww ro ds P (Exit.then (λa w=>∃k',(φ k'/\Inv c (VF++V1 k') [] (GF++G1 k') none_ a w)/\μ k'<μ k) Q) a w):(Code.loop C).ww ro ds P Q a w:=
 Ma (λk a w=>φ k/\Inv c (VF++V1 k) [] (GF++G1 k) none_ a w) μ k0 ⟨h0,hI.cv hV hG⟩ λk a w h=>round k a w h.1 h.2
variable {p q:Pred}
theorem mb (h:iP s G=some q:=by exact rfl) (hq:∀w v,q w v->p w v:=by exact JW):eu P V G (.tmp s) p:=rt hq h
theorem rK {x:Vr} {T:Nat} (h:mh s V=some x:=by exact rfl) (hs:x.slot=s:=by exact rfl) (hb:live none_ x=true:=by exact rfl) (cI:x.kd=.ptr:=by exact rfl) (hc:cont none_ x.c0 x.st=pv q:=by exact rfl) (hq:∀w v,q w v->p w v:=by exact JW) (ht:J7 P T x.agg x.n=true:=by kernel_rfl):eu P V G (.cell s T) p:=(fM h).1.elim λk hk=>.imp (.cell k hk hb cI hs (cV ht) hc) hq
end
section
variable {P:Program} {w:World} {fn:Func}{f:FuncId} {C:Code} {M:Nat->Nat->Prop} {p:Pred} {N:Nat}
theorem pq {vs:List Value} {G:List bf} (hf:P.funcs[f]?=some fn) (hb:fn.body=some C) (hN:fn.ntmps=N) (hlen:decide (vs.length<=N)=true) (hM:dz M w) (hG:cQ M w vs G)
  (h:∀a,Inv ⟨N,w,M,λ_=>False⟩ [] [] G none_ a w->C.ww none [] P (bodyPost P fn (bE M p w)) a w):Calls P f vs.toArray w (bE M p w):=
 bD hf hb hN hlen hM hG λa hI=>(wpIn_wide (n:=0)).1 (wpIn_mono (h a hI 0) λe a' w' ⟨a0,e0,h0⟩=>by subst e0; exact h0)
theorem R8 (hf:P.funcs[f]?=some fn) (hb:fn.body=some C) (hN:fn.ntmps=N) (hlen:decide (([]:List Value).length<=N)=true) (hM:dz M w) (h:∀a,Inv ⟨N,w,M,λ_=>False⟩ [] [] [] none_ a w->C.ww none [] P (bodyPost P fn (bE M p w)) a w):Calls P f #[] w (bE M p w):=
 pq (vs:=([]:List Value)) hf hb hN hlen hM (show cQ M w ([]:List Value) []from trivial) h
variable {v0:Value} {p0:Pred}
theorem Bu (hf:P.funcs[f]?=some fn) (hb:fn.body=some C) (hN:fn.ntmps=N) (hlen:decide ([v0].length<=N)=true) (hM:dz M w) (h0:aP M (λw=>p0 w v0) w) (h:∀a,Inv ⟨N,w,M,λ_=>False⟩ [] [] [Uz 0 p0] none_ a w->C.ww none [] P (bodyPost P fn (bE M p w)) a w):Calls P f #[v0] w (bE M p w):=
 pq (vs:=[v0]) hf hb hN hlen hM (show cQ M w [v0] [Uz 0 p0]from⟨⟨rfl,_,rfl,h0⟩,trivial⟩) h
variable {v1:Value} {p1:Pred}
theorem ze (hf:P.funcs[f]?=some fn) (hb:fn.body=some C) (hN:fn.ntmps=N) (hlen:decide ([v0,v1].length<=N)=true) (hM:dz M w) (h0:aP M (λw=>p0 w v0) w) (h1:aP M (λw=>p1 w v1) w) (h:∀a,Inv ⟨N,w,M,λ_=>False⟩ [] [] [Uz 0 p0,Uz 1 p1] none_ a w->C.ww none [] P (bodyPost P fn (bE M p w)) a w):Calls P f #[v0,v1] w (bE M p w):=
 pq (vs:=[v0,v1]) hf hb hN hlen hM (show cQ M w [v0,v1] [Uz 0 p0,Uz 1 p1]from⟨⟨rfl,_,rfl,h0⟩,⟨rfl,_,rfl,h1⟩,trivial⟩) h
theorem L9 {v2:Value} {p2:Pred} (hf:P.funcs[f]?=some fn) (hb:fn.body=some C) (hN:fn.ntmps=N) (hlen:decide ([v0,v1,v2].length<=N)=true) (hM:dz M w) (h0:aP M (λw=>p0 w v0) w) (h1:aP M (λw=>p1 w v1) w) (h2:aP M (λw=>p2 w v2) w) (h:∀a,Inv ⟨N,w,M,λ_=>False⟩ [] [] [Uz 0 p0,Uz 1 p1,Uz 2 p2] none_ a w->C.ww none [] P (bodyPost P fn (bE M p w)) a w):Calls P f #[v0,v1,v2] w (bE M p w):=
 pq (vs:=[v0,v1,v2]) hf hb hN hlen hM (show cQ M w [v0,v1,v2] [Uz 0 p0,Uz 1 p1,Uz 2 p2]from⟨⟨rfl,_,rfl,h0⟩,⟨rfl,_,rfl,h1⟩,⟨rfl,_,rfl,h2⟩,trivial⟩) h
end
abbrev K0 (P:Program) (f:FuncId) (p:Pred):Prop:=∀(M:Nat->Nat->Prop) (w:World),dz M w->Calls P f #[] w (bE M p w)
abbrev K1 (P:Program) (f:FuncId) (p0 p:Pred):Prop:=∀(M:Nat->Nat->Prop) (w:World) (v0:Value),dz M w->aP M (λw=>p0 w v0) w->Calls P f #[v0] w (bE M p w)
abbrev K2 (P:Program) (f:FuncId) (p0 p1 p:Pred):Prop:=∀(M:Nat->Nat->Prop) (w:World) (v0 v1:Value),dz M w->aP M (λw=>p0 w v0) w->aP M (λw=>p1 w v1) w->Calls P f #[v0,v1] w (bE M p w)
abbrev K3 (P:Program) (f:FuncId) (p0 p1 p2 p:Pred):Prop:=∀(M:Nat->Nat->Prop) (w:World) (v0 v1 v2:Value),dz M w->aP M (λw=>p0 w v0) w->aP M (λw=>p1 w v1) w->aP M (λw=>p2 w v2) w->Calls P f #[v0,v1,v2] w (bE M p w)
end Wx
