import Derived.Test.YtkcceahelokheaaGreatJLT19
namespace Wx
open Go Go.RowKit
abbrev Uc (i s:Nat) (p:Pred):bz:=⟨some i,none,s,p⟩
abbrev Uz (s:Nat) (p:Pred):bz:=⟨none,none,s,p⟩
variable {p q:Pred}
theorem QU (h:∀w v,p w v->q w v:=by
 first
 |exact nF (by omega)
 |exact xx (by omega)
 |exact w7.pV (by repeat' (first|exact w7.z|refine w7.c (by omega) ?_))
 |exact bk (by omega)
 |exactλ_ _ h=>h
 |exact ZJ rfl (by omega)
 |exact cq rfl (by omega)):∀w v,p w v->q w v:=h
def Th (G:List bz):List bz->Prop
 |[]=>True
 |e::es=>((e.tag=none/\e.till=none)/\∃p:Pred,(kT e.slot G=some p\/∃k:Nat,G[k]?=some ⟨none,none,e.slot,p⟩)/\∀w v,p w v->e.p w v)/\Th G es
variable {G:List bz}
theorem Th.ok:∀{G':List bz},Th G G'->Bo G G'
 |[],_=>trivial
 |_::_,⟨⟨⟨h1,h2⟩,p,h3,h4⟩,h5⟩=>⟨⟨h1,h2,(h3.elim (λh3=>gG h3) λh3=>h3).elim λk hk=>⟨k,p,hk,h4⟩⟩,Th.ok h5⟩
def Ti (V:List Vr):List Vr->Prop
 |[]=>True
 |x::xs=>(∃p:Rel,mU x.id V=some ⟨x.id,x.slot,none,none,x.kd,x.T,x.n,x.agg,p,[]⟩/\(x.born=none/\x.dead=none/\x.st=[])/\∀F w v,p F w v->x.c0 F w v)/\Ti V xs
variable {V:List Vr}
theorem Ti.ok:∀{V':List Vr},Ti V V'->Br V V'
 |[],_=>trivial
 |_::_,⟨⟨p,h1,h2,h3⟩,h4⟩=>⟨(fS h1).1.elim λk hk=>⟨k,_,p,hk,h2,rfl,h3⟩,Ti.ok h4⟩
variable {s:Nat}
theorem gc (h:kT s G=some p:=by exact rfl) (hq:∀w v,p w v->q w v:=by exact QU):((Uz s q).tag=none/\(Uz s q).till=none)/\∃p:Pred,(kT (Uz s q).slot G=some p\/∃k:Nat,G[k]?=some ⟨none,none,(Uz s q).slot,p⟩)/\∀w v,p w v->(Uz s q).p w v:=⟨⟨rfl,rfl⟩,p,.inl h,hq⟩
theorem gC (hq:∀w v,p w v->q w v) (h:kT s G=some p:=by exact rfl):((Uz s q).tag=none/\(Uz s q).till=none)/\∃p:Pred,(kT (Uz s q).slot G=some p\/∃k:Nat,G[k]?=some ⟨none,none,(Uz s q).slot,p⟩)/\∀w v,p w v->(Uz s q).p w v:=⟨⟨rfl,rfl⟩,p,.inl h,hq⟩
theorem gi (h:kT s G=some p:=by exact rfl):((Uz s p).tag=none/\(Uz s p).till=none)/\∃q:Pred,(kT (Uz s p).slot G=some q\/∃k:Nat,G[k]?=some ⟨none,none,(Uz s p).slot,q⟩)/\∀w v,q w v->(Uz s p).p w v:=⟨⟨rfl,rfl⟩,p,.inl h,λ_ _ h=>h⟩
theorem gq (n:Nat) (h:G[n]?=some ⟨none,none,s,q⟩:=by exact rfl):((Uz s q).tag=none/\(Uz s q).till=none)/\∃p:Pred,(kT (Uz s q).slot G=some p\/∃k:Nat,G[k]?=some ⟨none,none,(Uz s q).slot,p⟩)/\∀w v,p w v->(Uz s q).p w v:=⟨⟨rfl,rfl⟩,q,.inr ⟨n,h⟩,λ_ _ h=>h⟩
abbrev Vz (i s:Nat) (T:TypeId) (n:Nat) (ag:Bool) (p:Pred):Vr:=⟨i,s,none,none,.ptr,T,n,ag,pv p,[]⟩
variable {i T n:Nat} {ag:Bool}
theorem vc (h:mU i V=some (Vz i s T n ag p):=by exact rfl) (hq:∀w v,p w v->q w v:=by exact QU):∃r:Rel,mU (Vz i s T n ag q).id V=some ⟨(Vz i s T n ag q).id,(Vz i s T n ag q).slot,none,none,(Vz i s T n ag q).kd,(Vz i s T n ag q).T,(Vz i s T n ag q).n,(Vz i s T n ag q).agg,r,[]⟩/\((Vz i s T n ag q).born=none/\(Vz i s T n ag q).dead=none/\(Vz i s T n ag q).st=[])/\∀F w v,r F w v->(Vz i s T n ag q).c0 F w v:=⟨pv p,h,⟨rfl,rfl,rfl⟩,λ_=>hq⟩
theorem vi (h:mU i V=some (Vz i s T n ag p):=by exact rfl):∃r:Rel,mU (Vz i s T n ag p).id V=some ⟨(Vz i s T n ag p).id,(Vz i s T n ag p).slot,none,none,(Vz i s T n ag p).kd,(Vz i s T n ag p).T,(Vz i s T n ag p).n,(Vz i s T n ag p).agg,r,[]⟩/\((Vz i s T n ag p).born=none/\(Vz i s T n ag p).dead=none/\(Vz i s T n ag p).st=[])/\∀F w v,r F w v->(Vz i s T n ag p).c0 F w v:=⟨_,h,⟨rfl,rfl,rfl⟩,λ_ _ _ h=>h⟩
theorem vC (hq:∀w v,p w v->q w v) (h:mU i V=some (Vz i s T n ag p):=by exact rfl):∃r:Rel,mU (Vz i s T n ag q).id V=some ⟨(Vz i s T n ag q).id,(Vz i s T n ag q).slot,none,none,(Vz i s T n ag q).kd,(Vz i s T n ag q).T,(Vz i s T n ag q).n,(Vz i s T n ag q).agg,r,[]⟩/\((Vz i s T n ag q).born=none/\(Vz i s T n ag q).dead=none/\(Vz i s T n ag q).st=[])/\∀F w v,r F w v->(Vz i s T n ag q).c0 F w v:=⟨pv p,h,⟨rfl,rfl,rfl⟩,λ_=>hq⟩
section
variable {P:Program} {w:World} {fn:Func}
end
section
variable {P:Program} {Q:Exit->Act->World->Prop} {c:fT} {V:List Vr} {G:List bz} {a:Act} {w:World} {fn:Func}
theorem Inv.cv {V':List Vr} {G':List bz} (h:Inv c V [] G none_ a w) (hV:Ti V V') (hG:Th G G'):Inv c V' [] G' none_ a w:=h.conv hV.ok hG.ok
variable {id:Nat} {l:List Oper} {V1 V2:List Vr} {G1 G2:List bz}
theorem srD (h:Inv c V [] G none_ a w) (ms:List Nat) (nv:List Vr) (A1:List Al) (ne:List bz) (hV:tQ nv V V1) (hG:l6 ne G G1) (hs:nj P l.toArray ms c V1 A1 G1 0 l) (kV:dV V1 V2) (kG:aF G1 G2) (hk:∀a w,Inv c V2 [] G2 none_ a w->Q .normal a w) (hn:iq nv A1 ne=true:=by kernel_rfl) (hb:sL P c.N l ms V1 A1 G1=true:=by kernel_rfl):(Code.region id l.toArray true).wp P Q a w:=
 Uj h nv A1 ne hV hG hn ms hb hs kV kG hk
variable {y:Code}
theorem sqD (h:Inv c V [] G none_ a w) (ms:List Nat) (nv:List Vr) (A1:List Al) (ne:List bz) (hV:tQ nv V V1) (hG:l6 ne G G1) (hs:nj P l.toArray ms c V1 A1 G1 0 l) (kV:dV V1 V2) (kG:aF G1 G2) (hk:∀a w,Inv c V2 [] G2 none_ a w->y.wp P Q a w) (hn:iq nv A1 ne=true:=by kernel_rfl) (hb:sL P c.N l ms V1 A1 G1=true:=by kernel_rfl):(Code.seq (Code.region id l.toArray true) y).wp P Q a w:=
 ZR h nv A1 ne hV hG hn ms hb hs kV kG hk
theorem Qq (h:Inv c V [] G none_ a w) (n:Nat) (nv:List Vr) (A1:List Al) (ne:List bz) (hV:tQ nv V V1) (hG:l6 ne G G1) (hs:nj P l.toArray (tm n 0) c V1 A1 G1 0 l) (kV:dV V1 V2) (kG:aF G1 G2) (hk:∀a w,Inv c V2 [] G2 none_ a w->Q .normal a w) (hn:iq nv A1 ne=true:=by kernel_rfl) (hb:qg c.N l (tm n 0) V1 A1 G1=true:=by kernel_rfl):(Code.region id l.toArray false).wp P Q a w:=
 Qk h nv A1 ne hV hG hn (tm n 0) hb hs kV kG hk
theorem ZS (h:Inv c [] [] G none_ a w) (n:Nat) (ne:List bz) (hG:l6 ne G G1) (hs:nj P l.toArray (tm n 0) c [] [] G1 0 l) (kG:aF G1 G2) (hk:∀a w,Inv c [] [] G2 none_ a w->Q .normal a w) (hn:iq [] [] ne=true:=by kernel_rfl) (hb:qg c.N l (tm n 0) [] [] G1=true:=by kernel_rfl):(Code.region id l.toArray false).wp P Q a w:=
 Qk h [] [] ne .z hG hn (tm n 0) hb hs .z kG hk
theorem dU (h:Inv c [] [] G none_ a w) (n:Nat) (ne:List bz) (hG:l6 ne G G1) (hs:nj P l.toArray (tm n 0) c [] [] G1 0 l) (kG:aF G1 G2) (hk:∀a w,Inv c [] [] G2 none_ a w->y.wp P Q a w) (hn:iq [] [] ne=true:=by kernel_rfl) (hb:qg c.N l (tm n 0) [] [] G1=true:=by kernel_rfl):(Code.seq (Code.region id l.toArray false) y).wp P Q a w:=
 Uk h [] [] ne .z hG hn (tm n 0) hb hs .z kG hk
theorem qR {ι:Type} {V1:ι->List Vr} {G1:ι->List bz} {φ:ι->Prop} {μ:ι->Nat} {k:ι} (k':ι) (h:φ k') (hI:Inv c V [] G none_ a w) (hV:Ti V (V1 k')) (hG:Th G (G1 k')) (hm:μ k'<μ k):∃k',(φ k'/\Inv c (V1 k') [] (G1 k') none_ a w)/\μ k'<μ k:=⟨k',⟨h,hI.cv hV hG⟩,hm⟩
variable {p q:Pred}
theorem rt {s:Nat} (hq:∀w v,q w v->p w v) (h:kT s G=some q:=by exact rfl):dW P V G (.tmp s) p:=(gG h).elim λk hk=>.imp (.tmp k hk) hq
theorem f1 {r:ResultVar} (hI:Inv c V [] G none_ a w) (h:dW P V G r p:=by exact rt QU) (hr:fn.results=#[r]:=by exact rfl) (hn:∀k,¬c.kr k:=by exactλ_ h=>h):bodyPost P fn (bH c.M0 p c.w0) .ret a w:=ck hI hr h hn
variable {r1 r2:ResultVar}
theorem f2 (hI:Inv c V [] G none_ a w) (h1:dW P V G r1 p:=by exact rt QU) (h2:dW P V G r2 q:=by exact rt QU) (hr:fn.results=#[r1,r2]:=by exact rfl) (hn:∀k,¬c.kr k:=by exactλ_ h=>h):bodyPost P fn (bH c.M0 (cN p q) c.w0) .ret a w:=jZ hI hr h1 h2 hn
theorem f3 {r3:ResultVar} {r:Pred} (hI:Inv c V [] G none_ a w) (h1:dW P V G r1 p:=by exact rt QU) (h2:dW P V G r2 q:=by exact rt QU) (h3:dW P V G r3 r:=by exact rt QU) (hr:fn.results=#[r1,r2,r3]:=by exact rfl) (hn:∀k,¬c.kr k:=by exactλ_ h=>h):bodyPost P fn (bH c.M0 (FR p q r) c.w0) .ret a w:=abx hI hr h1 h2 h3 hn
end
end Wx

namespace Wx
open Go Go.RowKit
inductive Zf
 |o (z:Zl)
 |m (l:List Zl)
def Zf.cs:Zf->List Value
 |.o z=>z.cs
 |.m l=>l.flatMap Zl.cs
def Zf.fd:Zf->Fd
 |.o z=>z.fd
 |.m l=>⟨true,(l.flatMap Zl.cs).length,pS (l.map Zl.fd)⟩
def Zf.size:Zf->Nat
 |.o .r|.o .f=>3
 |.o _=>1
 |.m l=>(l.flatMap Zl.cs).length
theorem Lh (w:World):∀l:List Zf,aM (l.map Zf.fd) w (l.flatMap Zf.cs):=by
 intro l
 induction l with
 |nil=>rfl
 |cons z l ih=>
  cases z with
  |o z=>
   have h:=Uq w [z]
   obtain⟨h1,h2,h3⟩:=h
   simp only[List.flatMap_cons,List.flatMap_nil,List.append_nil]at h1 h2 h3
   have h3:(Zl.cs z).drop (Zl.fd z).n=[]:=h3
   have e:(Zl.cs z).length=(Zl.fd z).n:=by cases z<;>rfl
   refine⟨?_,?_,?_⟩
   ·show(Zl.fd z).n<=(Zl.cs z++l.flatMap Zf.cs).length; rw[List.length_append]; omega
   ·show(Zl.fd z).p w (aj (Zl.fd z).agg ((Zl.cs z++l.flatMap Zf.cs).take (Zl.fd z).n))
    rw[List.take_append_of_le_length (by omega)]; exact h2
   ·show aM (l.map Zf.fd) w ((Zl.cs z++l.flatMap Zf.cs).drop (Zl.fd z).n)
    rw[List.drop_append_of_le_length (by omega),h3]; exact ih
  |m zs=>
   refine⟨?_,?_,?_⟩
   ·show(zs.flatMap Zl.cs).length<=(zs.flatMap Zl.cs++l.flatMap Zf.cs).length; rw[List.length_append]; omega
   ·show pS (zs.map Zl.fd) w (aj true ((zs.flatMap Zl.cs++l.flatMap Zf.cs).take (zs.flatMap Zl.cs).length))
    rw[List.take_left']
    ·exact tP zs w
    ·rfl
   ·show aM (l.map Zf.fd) w ((zs.flatMap Zl.cs++l.flatMap Zf.cs).drop (zs.flatMap Zl.cs).length)
    rw[List.drop_left']
    ·exact ih
    ·rfl
def ZN:Nat->List Zf->List (Nat×Nat)
 |_,[]=>[]
 |o,z::l=>(o,z.size)::ZN (o+z.size) l
inductive eP:List Fd->List Fd->Prop
 |z:eP [] []
 |k {f:Fd} {fs hs:List Fd}:eP fs hs->eP (f::fs) (f::hs)
 |m {n:Nat} {gs fs hs r:List Fd}:eP fs hs->EI gs (some hs)=some r->eP (⟨true,n,pS gs⟩::fs) r
variable {fs hs:List Fd}
theorem eP.ok (h:eP fs hs):∀{w:World} {cs:List Value},aM fs w cs->aM hs w cs:=by
 induction h with
 |z=>exactλh=>h
 |k _ ih=>exact λ⟨h1,h2,h3⟩=>⟨h1,h2,ih h3⟩
 |m _ hc ih=>
  rintro w cs ⟨h1,⟨ds,e,h2⟩,h3⟩
  have e:=bG (show aj true (cs.take _)=aj true ds from e)
  subst e
  have:=CX hc h2 (ih h3)
  rwa [List.take_append_drop]at this
theorem eP.pS (h:eP fs hs):∀w v,Wx.pS fs w v->Wx.pS hs w v:=λ_ _ ⟨cs,e,hc⟩=>⟨cs,e,h.ok hc⟩
theorem Post.down {G:List bz} {i:Nat} {p q:Pred} (h:Post G i q) (hq:∀w v,p w v->q w v):Post G i p:=by
 cases h with
 |at_ k s r h hr=>exact .at_ k s r h λw v hp=>hr w v (hq w v hp)
 |none h=>exact .none h
section
variable {P:Program} {ops:Array Oper} {ms:List Nat} {c:fT} {V:List Vr} {A:List Al} {G:List bz} {i:Nat}{d:Nat} {x y z:Operand} {ty:TypeId} {pos:String} {aft:Array Edge}
def plG (fs:List Fd) (pf:Nat->Option (Nat×Nat)):Bool:=(List.range fs.length).all λk=>match fs[k]? with
 |some f=>pf k==some (bX fs k,f.n)
 |none=>true
variable {fs:List Fd} {pf:Nat->Option (Nat×Nat)}
theorem DL (h:plG fs pf=true):∀(k:Nat) (f:Fd),fs[k]?=some f->pf k=some (bX fs k,f.n):=by
 intro k f hk
 have hlt:k<fs.length:=by
  rcases Nat.lt_or_ge k fs.length with h'|h'
  ·exact h'
  ·rw[List.getElem?_eq_none h']at hk; cases hk
 have:=List.all_eq_true.1 h k (List.mem_range.2 hlt)
 rw[hk]at this
 simpa using this
variable {T:TypeId} {parts:Array (Nat×Operand)} {gs:List Fd}
theorem rS {z:List Value} {ps:List (Nat×Pred)} (ht:∀parts,P.built T parts=Instr.fill pf z.toArray parts) (Ig:∀(k:Nat) (f:Fd),fs[k]?=some f->pf k=some (bX fs k,f.n)) (hz:∀w,aM fs w z)
  (hps:dy ms G i fs parts.toList ps) (hg:rq fs ps=gs) (hp:Post G i (pS gs)):
  OpOk P ops ms c V A G i ⟨some d,.build T parts,ty,pos,aft,none⟩:=
 cC rfl rfl rfl (.inl rfl) hp λL β a w hI hd=>by
  have key:∀(xs:List (Nat×Operand)) (ps:List (Nat×Pred)),dy ms G i fs xs ps->aO (own c V L β) (λw=>wY fs w (xs.map λq=>(q.1,a.eval q.2)) ps) w:=by
   intro xs
   induction xs with
   |nil=>intro ps h; cases ps<;>exactλ_ _=>h
   |cons q xs ih=>
    intro ps h
    obtain⟨j,x⟩:=q
    cases ps with
    |nil=>exact h.elim
    |cons r ps=>
     obtain⟨k,p⟩:=r
     obtain⟨⟨e,h1,h2⟩,h3⟩:=h
     exactλw' he=>⟨⟨e,h1.spec hI hd w' he,h2⟩,ih ps h3 w' he⟩
  have hb:=key _ _ hps
  obtain⟨cs',h1,h2,h3⟩:=J8 (pl:=pf) _ _ fs z Ig (hz w) hb.out
  refine⟨.agg cs'.toArray,w,?_,Below.refl _ _,λw' he=>?_⟩
  ·show(do pure (Next.value (<-Instr.build T (parts.map λ(i,x)=>(i,a.eval x))))).run P w=_
   have e:(parts.map λ(i,x)=>(i,a.eval x)).toList=parts.toList.map λq=>(q.1,a.eval q.2):=by simp
   rw[Sem.run_bind,run_build w T _ cs'.toArray (by rw[e,ht]; exact h1)]
   rfl
  ·rw[<-hg]
   exact ZL (h3 w' (hz w') (hb w' he))
variable {hs:List Fd}
theorem bd (l:List Zf) (ps:List (Nat×Pred)) (hps:dy ms G i (l.map Zf.fd) parts.toList ps:=by repeat' (first|exact trivial|refine⟨⟨rfl,Wx.hs,_,rfl,oK⟩,?_⟩))
  (hg:rq (l.map Zf.fd) ps=gs:=by exact rfl) (hF:eP gs hs:=by repeat' (first|exact eP.z|exact rfl|apply eP.m|apply eP.k)) (hp:Post G i (pS hs):=by exact pt rfl) (ht:∀parts,P.built T parts=Instr.fill (λi=>(ZN 0 l).toArray[i]?) (l.flatMap Zf.cs).toArray parts:=by(intro parts; kernel_rfl)) (Ig:plG (l.map Zf.fd) (λi=>(ZN 0 l).toArray[i]?)=true:=by kernel_rfl):
  OpOk P ops ms c V A G i ⟨some d,.build T parts,ty,pos,aft,none⟩:=
 rS ht (DL Ig) (λw=>Lh w l) hps hg (hp.down hF.pS)
theorem GR (s:Nat) (l:List Zf) (ps:List (Nat×Pred)) (hps:dy ms G i (l.map Zf.fd) parts.toList ps:=by repeat' (first|exact trivial|refine⟨⟨rfl,Wx.hs,_,rfl,oK⟩,?_⟩))
  (hg:rq (l.map Zf.fd) ps=gs:=by exact rfl) (hF:eP gs hs:=by repeat' (first|exact eP.z|exact rfl|apply eP.m|apply eP.k)) (hp:Post G i (pS hs):=by exact pt rfl) (ht:∀parts,P.built T parts=Instr.fill (λi=>some (i*s,s)) (l.flatMap Zf.cs).toArray parts:=by(intro parts; kernel_rfl)) (Ig:plG (l.map Zf.fd) (λi=>some (i*s,s))=true:=by kernel_rfl):
  OpOk P ops ms c V A G i ⟨some d,.build T parts,ty,pos,aft,none⟩:=
 rS ht (DL Ig) (λw=>Lh w l) hps hg (hp.down hF.pS)
theorem n9 {p q:Int} (B:Int) (h1:-B<=p) (h2:p<=B) (h3:-B<=q) (h4:q<=B):-(B*B)<=p*q/\p*q<=B*B:=by
 have a1:p.natAbs<=B.natAbs:=by omega
 have a2:q.natAbs<=B.natAbs:=by omega
 have a3:=Nat.mul_le_mul a1 a2
 rw[<-Int.natAbs_mul,<-Int.natAbs_mul]at a3
 have a4:((B*B).natAbs:Int)=B*B:=Int.natAbs_of_nonneg (Int.mul_nonneg (by omega) (by omega))
 omega
variable {S s:Nat} {al:Al} {v:Vr}
theorem iA (len sz q:Nat) (ha:NW i A=some al:=by exact rfl) (hv:mU al.var V=some v:=by exact rfl) (ho:bE ms i v=true:=by exact rfl) (bR:v.kd=.ptr:=by exact rfl) (hs:v.slot=s:=by exact rfl) (RM:Has ms G i y (pI (q:Int)):=by exact(Wx.hs).imp (bk (by omega))) (hq:q<len:=by omega) (dX:al.off=q*sz:=by exact rfl) (hS:GN P S len sz=true:=by kernel_rfl) (hu:(A.filter λq=>q.tag==some i).length=1:=by kernel_rfl) (hno:(G.all λe=>e.tag != some i)=true:=by kernel_rfl):
  OpOk P ops ms c V A G i ⟨some d,.indexAddr S (.tmp s) y,ty,pos,aft,none⟩:=
 DC ha hv ho bR hs RM (λb w=>by have:=gY hS (b:=b) (off:=0) (m:=(q:Int)) (by omega) (by omega) w; rwa [Int.toNat_natCast,Nat.zero_add]at this) dX hu hno
theorem iB {rJ:Al} (len sz q:Nat) (ha:NW i A=some al:=by exact rfl) (ha0:JM ms i s A=some rJ:=by exact rfl) (hv:mU al.var V=some v:=by exact rfl) (hv0:rJ.var=al.var:=by exact rfl) (ho:bE ms i v=true:=by exact rfl) (bR:v.kd=.ptr:=by exact rfl) (RM:Has ms G i y (pI (q:Int)):=by exact(Wx.hs).imp (bk (by omega))) (hq:q<len:=by omega) (dX:al.off=rJ.off+q*sz:=by exact rfl) (hcd:rJ.cond:=by trivial) (hS:GN P S len sz=true:=by kernel_rfl) (hu:(A.filter λq=>q.tag==some i).length=1:=by kernel_rfl) (hno:(G.all λe=>e.tag != some i)=true:=by kernel_rfl):
  OpOk P ops ms c V A G i ⟨some d,.indexAddr S (.tmp s) y,ty,pos,aft,none⟩:=
 wC ha ha0 hv hv0 ho bR RM (λb w=>by have:=gY hS (b:=b) (off:=rJ.off) (m:=(q:Int)) (by omega) (by omega) w; rwa [Int.toNat_natCast]at this) dX hcd hu hno
variable {F:Rat->Pred} {j:Nat} {l:List Rat}
theorem lV (q:Nat) (ha:JM ms i s A=some al:=by exact rfl) (hv:mU al.var V=some v:=by exact rfl) (ho:bE ms i v=true:=by exact rfl) (bR:v.kd=.ptr:=by exact rfl) (hst:(v.st.all λq=>(ms.getD i 0).testBit q.1||(ms.getD q.1 0).testBit i)=true:=by kernel_rfl) (qj:v.agg=true:=by exact rfl)
  (hc:cont (λj=>(ms.getD i 0).testBit j) v.c0 v.st=pv (pV F j l):=by exact rfl) (hq:q<l.length:=by omega) (hoff:al.off=q*3:=by(dsimp only<;>omega)) (hlen:al.off+3<=v.n:=by(dsimp only<;>omega)) (hcd:al.cond:=by trivial) (hp:Post G i (pQ F j (l.getD q 0)):=by exact pt rfl) (ht:Gu P T true 3=true:=by kernel_rfl):OpOk P ops ms c V A G i ⟨some d,.load T (.tmp s),ty,pos,aft,none⟩:=
 uO ha hv ho bR hst hc (aY ht) (by rw[qj]; exact wL q hoff hq) hcd hp (decide_eq_true hlen)
theorem lW (q m:Nat) (ha:JM ms i s A=some al:=by exact rfl) (hv:mU al.var V=some v:=by exact rfl) (ho:bE ms i v=true:=by exact rfl) (bR:v.kd=.ptr:=by exact rfl) (hst:(v.st.all λq=>(ms.getD i 0).testBit q.1||(ms.getD q.1 0).testBit i)=true:=by kernel_rfl) (qj:v.agg=true:=by exact rfl)
  (hc:cont (λj=>(ms.getD i 0).testBit j) v.c0 v.st=pv (pV F j l):=by exact rfl) (hoff:al.off=q*3:=by(dsimp only<;>omega)) (hlen:al.off+m*3<=v.n:=by(dsimp only<;>omega)) (hcd:al.cond:=by trivial) (hp:Post G i (pV F j ((l.drop q).take m)):=by exact pt rfl) (ht:Gu P T true (m*3)=true:=by kernel_rfl):OpOk P ops ms c V A G i ⟨some d,.load T (.tmp s),ty,pos,aft,none⟩:=
 uO ha hv ho bR hst hc (aY ht) (by rw[qj]; exact zW q m hoff) hcd hp (decide_eq_true hlen)
end
end Wx

namespace Wx
open Go Go.RowKit
section
variable {ro:Option Nat} {ds:List Deferred} {P:Program} {Q:Exit->Act->World->Prop} {c:fT} {V:List Vr} {G:List bz} {a:Act} {w:World} {fn:Func}{id:Nat} {l:List Oper} {V1 V2:List Vr} {G1 G2:List bz}
theorem QK (h:Inv c V [] G none_ a w) (ms:List Nat) (nv:List Vr) (A1:List Al) (ne:List bz) (hV:tQ nv V V1) (hG:l6 ne G G1) (hs:nj P l.toArray ms c V1 A1 G1 0 l) (kV:dV V1 V2) (kG:aF G1 G2) (hk:∀a w,Inv c V2 [] G2 none_ a w->Q .normal a w) (hn:iq nv A1 ne=true:=by kernel_rfl) (hb:sL P c.N l ms V1 A1 G1=true:=by kernel_rfl) (hd:l.all iC=true:=by kernel_rfl):(Code.region id l.toArray true).ww ro ds P Q a w:=by
 unfold sL at hb
 simp only[Bool.and_eq_true,beq_iff_eq]at hb
 obtain⟨hm,hok,tn,hwf⟩:=hb
 exact QL ms hm hok tn hwf hd (gl h hV hG hn) hs λa w hI=>hk a w (iy hwf kV kG hI)
variable {y:Code}
theorem mR (h:Inv c V [] G none_ a w) (ms:List Nat) (nv:List Vr) (A1:List Al) (ne:List bz) (hV:tQ nv V V1) (hG:l6 ne G G1) (hs:nj P l.toArray ms c V1 A1 G1 0 l) (kV:dV V1 V2) (kG:aF G1 G2) (hk:∀a w,Inv c V2 [] G2 none_ a w->y.ww ro ds P Q a w) (hn:iq nv A1 ne=true:=by kernel_rfl) (hb:sL P c.N l ms V1 A1 G1=true:=by kernel_rfl) (hd:l.all iC=true:=by kernel_rfl):(Code.seq (Code.region id l.toArray true) y).ww ro ds P Q a w:=
 az (QK h ms nv A1 ne hV hG hs kV kG hk hn hb hd)
theorem adQ (h:Inv c [] [] G none_ a w) (ms:List Nat) (ne:List bz) (hG:l6 ne G G1) (hs:nj P l.toArray ms c [] [] G1 0 l) (kG:aF G1 G2) (hk:∀a w,Inv c [] [] G2 none_ a w->Q .normal a w) (hn:iq [] [] ne=true:=by kernel_rfl) (hb:sL P c.N l ms [] [] G1=true:=by kernel_rfl) (hd:l.all iC=true:=by kernel_rfl):(Code.region id l.toArray true).ww ro ds P Q a w:=QK h ms [] [] ne .z hG hs .z kG hk hn hb hd
theorem adP (h:Inv c [] [] G none_ a w) (ms:List Nat) (ne:List bz) (hG:l6 ne G G1) (hs:nj P l.toArray ms c [] [] G1 0 l) (kG:aF G1 G2) (hk:∀a w,Inv c [] [] G2 none_ a w->y.ww ro ds P Q a w) (hn:iq [] [] ne=true:=by kernel_rfl) (hb:sL P c.N l ms [] [] G1=true:=by kernel_rfl) (hd:l.all iC=true:=by kernel_rfl):(Code.seq (Code.region id l.toArray true) y).ww ro ds P Q a w:=az (adQ h ms ne hG hs kG hk hn hb hd)
theorem qq (h:Inv c V [] G none_ a w) (n:Nat) (nv:List Vr) (A1:List Al) (ne:List bz) (hV:tQ nv V V1) (hG:l6 ne G G1) (hs:nj P l.toArray (tm n 0) c V1 A1 G1 0 l) (kV:dV V1 V2) (kG:aF G1 G2) (hk:∀a w,Inv c V2 [] G2 none_ a w->Q .normal a w) (hn:iq nv A1 ne=true:=by kernel_rfl) (hb:qg c.N l (tm n 0) V1 A1 G1=true:=by kernel_rfl) (hd:l.all iC=true:=by kernel_rfl):(Code.region id l.toArray false).ww ro ds P Q a w:=by
 unfold qg at hb
 simp only[Bool.and_eq_true,beq_iff_eq]at hb
 obtain⟨tn,hwf⟩:=hb
 exact Te hwf hd (gl h hV hG hn) (by rw[tn]; exact hs) λa w hI=>hk a w (iy hwf kV kG hI)
theorem bf (h:Inv c V [] G none_ a w) (n:Nat) (nv:List Vr) (A1:List Al) (ne:List bz) (hV:tQ nv V V1) (hG:l6 ne G G1) (hs:nj P l.toArray (tm n 0) c V1 A1 G1 0 l) (kV:dV V1 V2) (kG:aF G1 G2) (hk:∀a w,Inv c V2 [] G2 none_ a w->y.ww ro ds P Q a w) (hn:iq nv A1 ne=true:=by kernel_rfl) (hb:qg c.N l (tm n 0) V1 A1 G1=true:=by kernel_rfl) (hd:l.all iC=true:=by kernel_rfl):(Code.seq (Code.region id l.toArray false) y).ww ro ds P Q a w:=
 az (qq h n nv A1 ne hV hG hs kV kG hk hn hb hd)
theorem Ed (h:Inv c [] [] G none_ a w) (n:Nat) (ne:List bz) (hG:l6 ne G G1) (hs:nj P l.toArray (tm n 0) c [] [] G1 0 l) (kG:aF G1 G2) (hk:∀a w,Inv c [] [] G2 none_ a w->Q .normal a w) (hn:iq [] [] ne=true:=by kernel_rfl) (hb:qg c.N l (tm n 0) [] [] G1=true:=by kernel_rfl) (hd:l.all iC=true:=by kernel_rfl):(Code.region id l.toArray false).ww ro ds P Q a w:=qq h n [] [] ne .z hG hs .z kG hk hn hb hd
theorem bM (h:Inv c [] [] G none_ a w) (n:Nat) (ne:List bz) (hG:l6 ne G G1) (hs:nj P l.toArray (tm n 0) c [] [] G1 0 l) (kG:aF G1 G2) (hk:∀a w,Inv c [] [] G2 none_ a w->y.ww ro ds P Q a w) (hn:iq [] [] ne=true:=by kernel_rfl) (hb:qg c.N l (tm n 0) [] [] G1=true:=by kernel_rfl) (hd:l.all iC=true:=by kernel_rfl):(Code.seq (Code.region id l.toArray false) y).ww ro ds P Q a w:=az (Ed h n ne hG hs kG hk hn hb hd)
variable {s:Nat}
theorem y6 {v:Value} (hI:Inv c V [] G none_ a w) (hk:kT s G=some (bg v)):a.eval (.tmp s)=v:=by
 obtain⟨k,h⟩:=gG hk
 exact hI.get k h
variable {b:Bool} {x:Code}
theorem Cy (hI:Inv c V [] G none_ a w) (ht:b=true->x.ww ro ds P Q a w) (hf:b=false->y.ww ro ds P Q a w) (hk:kT s G=some (pB b):=by exact rfl):(Code.cond (.tmp s) x y).ww ro ds P Q a w:=Ef (y6 hI hk) ht hf
theorem mj {φ:Prop} [Decidable φ] {x y:Code} (hI:Inv c V [] G none_ a w) (ht:φ->x.ww ro ds P Q a w) (hf:¬φ->y.ww ro ds P Q a w) (hk:kT s G=some (pB (decide φ)):=by exact rfl):(Code.cond (.tmp s) x y).ww ro ds P Q a w:=Ef (y6 hI hk) (λh=>ht (of_decide_eq_true h)) λh=>hf (of_decide_eq_false h)
theorem wcF (hI:Inv c V [] G none_ a w) (hb:b=false) (hf:y.ww ro ds P Q a w) (hk:kT s G=some (pB b):=by exact rfl):(Code.cond (.tmp s) x y).ww ro ds P Q a w:=Ef (y6 hI hk) (λh=>by rw[hb]at h; cases h) λ_=>hf
theorem tN {ι:Type} {C:Code} (VF:List Vr) (GF:List bz) (V1:ι->List Vr) (G1:ι->List bz) (φ:ι->Prop) (μ:ι->Nat) (k0:ι) (h0:φ k0) (hI:Inv c V [] G none_ a w) (hV:Ti V (VF++V1 k0)) (hG:Th G (GF++G1 k0))
  (round:∀k a w,φ k->Inv c (VF++V1 k) [] (GF++G1 k) none_ a w->C.ww ro ds P (Exit.then (λa w=>∃k',(φ k'/\Inv c (VF++V1 k') [] (GF++G1 k') none_ a w)/\μ k'<μ k) Q) a w):(Code.loop C).ww ro ds P Q a w:=
 Tb (λk a w=>φ k/\Inv c (VF++V1 k) [] (GF++G1 k) none_ a w) μ k0 ⟨h0,hI.cv hV hG⟩ λk a w h=>round k a w h.1 h.2
theorem Td (V':List Vr) (G':List bz) (_:Inv c V [] G none_ a w) (_:Ti V V') (_:Th G G') (hx:x.ww ro ds P (Exit.then (Inv c V' [] G' none_) Q) a w) (hy:∀a w,Inv c V' [] G' none_ a w->y.ww ro ds P Q a w):(Code.seq x y).ww ro ds P Q a w:=
 az (Tc hx λe a w h=>by
  cases e with
  |normal=>exact hy a w h
  |_=>exact h)
variable {p q:Pred}
theorem iu (h:kT s G=some q:=by exact rfl) (hq:∀w v,q w v->p w v:=by exact QU):dW P V G (.tmp s) p:=rt hq h
theorem r7 {x:Vr} {T:Nat} (h:mU s V=some x:=by exact rfl) (hs:x.slot=s:=by exact rfl) (hb:live none_ x=true:=by exact rfl) (bR:x.kd=.ptr:=by exact rfl) (hc:cont none_ x.c0 x.st=pv q:=by exact rfl) (hq:∀w v,q w v->p w v:=by exact QU) (ht:Gu P T x.agg x.n=true:=by kernel_rfl):dW P V G (.cell s T) p:=(fS h).1.elim λk hk=>.imp (.cell k hk hb bR hs (aY ht) hc) hq
end
section
variable {P:Program} {w:World} {fn:Func}{f:FuncId} {C:Code} {M:Nat->Nat->Prop} {p:Pred} {N:Nat}
theorem oz {vs:List Value} {G:List bz} (hf:P.funcs[f]?=some fn) (hb:fn.body=some C) (hN:fn.ntmps=N) (hlen:decide (vs.length<=N)=true) (hM:cL M w) (hG:cF M w vs G)
  (h:∀a,Inv ⟨N,w,M,λ_=>False⟩ [] [] G none_ a w->C.ww none [] P (bodyPost P fn (bH M p w)) a w):Calls P f vs.toArray w (bH M p w):=
 eK hf hb hN hlen hM hG λa hI=>(wpIn_wide (n:=0)).1 (wpIn_mono (h a hI 0) λe a' w' ⟨a0,e0,h0⟩=>by subst e0; exact h0)
theorem Z0 (hf:P.funcs[f]?=some fn) (hb:fn.body=some C) (hN:fn.ntmps=N) (hlen:decide (([]:List Value).length<=N)=true) (hM:cL M w) (h:∀a,Inv ⟨N,w,M,λ_=>False⟩ [] [] [] none_ a w->C.ww none [] P (bodyPost P fn (bH M p w)) a w):Calls P f #[] w (bH M p w):=
 oz (vs:=([]:List Value)) hf hb hN hlen hM (show cF M w ([]:List Value) []from trivial) h
variable {v0:Value} {p0:Pred}
theorem om (hf:P.funcs[f]?=some fn) (hb:fn.body=some C) (hN:fn.ntmps=N) (hlen:decide ([v0].length<=N)=true) (hM:cL M w) (h0:aO M (λw=>p0 w v0) w) (h:∀a,Inv ⟨N,w,M,λ_=>False⟩ [] [] [Uz 0 p0] none_ a w->C.ww none [] P (bodyPost P fn (bH M p w)) a w):Calls P f #[v0] w (bH M p w):=
 oz (vs:=[v0]) hf hb hN hlen hM (show cF M w [v0] [Uz 0 p0]from⟨⟨rfl,_,rfl,h0⟩,trivial⟩) h
variable {v1:Value} {p1:Pred}
theorem rG (hf:P.funcs[f]?=some fn) (hb:fn.body=some C) (hN:fn.ntmps=N) (hlen:decide ([v0,v1].length<=N)=true) (hM:cL M w) (h0:aO M (λw=>p0 w v0) w) (h1:aO M (λw=>p1 w v1) w) (h:∀a,Inv ⟨N,w,M,λ_=>False⟩ [] [] [Uz 0 p0,Uz 1 p1] none_ a w->C.ww none [] P (bodyPost P fn (bH M p w)) a w):Calls P f #[v0,v1] w (bH M p w):=
 oz (vs:=[v0,v1]) hf hb hN hlen hM (show cF M w [v0,v1] [Uz 0 p0,Uz 1 p1]from⟨⟨rfl,_,rfl,h0⟩,⟨rfl,_,rfl,h1⟩,trivial⟩) h
variable {v2:Value} {p2:Pred}
theorem WJ (hf:P.funcs[f]?=some fn) (hb:fn.body=some C) (hN:fn.ntmps=N) (hlen:decide ([v0,v1,v2].length<=N)=true) (hM:cL M w) (h0:aO M (λw=>p0 w v0) w) (h1:aO M (λw=>p1 w v1) w) (h2:aO M (λw=>p2 w v2) w) (h:∀a,Inv ⟨N,w,M,λ_=>False⟩ [] [] [Uz 0 p0,Uz 1 p1,Uz 2 p2] none_ a w->C.ww none [] P (bodyPost P fn (bH M p w)) a w):Calls P f #[v0,v1,v2] w (bH M p w):=
 oz (vs:=[v0,v1,v2]) hf hb hN hlen hM (show cF M w [v0,v1,v2] [Uz 0 p0,Uz 1 p1,Uz 2 p2]from⟨⟨rfl,_,rfl,h0⟩,⟨rfl,_,rfl,h1⟩,⟨rfl,_,rfl,h2⟩,trivial⟩) h
variable {v3:Value} {p3:Pred}
theorem WK (hf:P.funcs[f]?=some fn) (hb:fn.body=some C) (hN:fn.ntmps=N) (hlen:decide ([v0,v1,v2,v3].length<=N)=true) (hM:cL M w) (h0:aO M (λw=>p0 w v0) w) (h1:aO M (λw=>p1 w v1) w) (h2:aO M (λw=>p2 w v2) w) (h3:aO M (λw=>p3 w v3) w) (h:∀a,Inv ⟨N,w,M,λ_=>False⟩ [] [] [Uz 0 p0,Uz 1 p1,Uz 2 p2,Uz 3 p3] none_ a w->C.ww none [] P (bodyPost P fn (bH M p w)) a w):Calls P f #[v0,v1,v2,v3] w (bH M p w):=
 oz (vs:=[v0,v1,v2,v3]) hf hb hN hlen hM (show cF M w [v0,v1,v2,v3] [Uz 0 p0,Uz 1 p1,Uz 2 p2,Uz 3 p3]from⟨⟨rfl,_,rfl,h0⟩,⟨rfl,_,rfl,h1⟩,⟨rfl,_,rfl,h2⟩,⟨rfl,_,rfl,h3⟩,trivial⟩) h
theorem adV {v4:Value} {p4:Pred} (hf:P.funcs[f]?=some fn) (hb:fn.body=some C) (hN:fn.ntmps=N) (hlen:decide ([v0,v1,v2,v3,v4].length<=N)=true) (hM:cL M w) (h0:aO M (λw=>p0 w v0) w) (h1:aO M (λw=>p1 w v1) w) (h2:aO M (λw=>p2 w v2) w) (h3:aO M (λw=>p3 w v3) w) (h4:aO M (λw=>p4 w v4) w) (h:∀a,Inv ⟨N,w,M,λ_=>False⟩ [] [] [Uz 0 p0,Uz 1 p1,Uz 2 p2,Uz 3 p3,Uz 4 p4] none_ a w->C.ww none [] P (bodyPost P fn (bH M p w)) a w):Calls P f #[v0,v1,v2,v3,v4] w (bH M p w):=
 oz (vs:=[v0,v1,v2,v3,v4]) hf hb hN hlen hM (show cF M w [v0,v1,v2,v3,v4] [Uz 0 p0,Uz 1 p1,Uz 2 p2,Uz 3 p3,Uz 4 p4]from⟨⟨rfl,_,rfl,h0⟩,⟨rfl,_,rfl,h1⟩,⟨rfl,_,rfl,h2⟩,⟨rfl,_,rfl,h3⟩,⟨rfl,_,rfl,h4⟩,trivial⟩) h
end
abbrev K0 (P:Program) (f:FuncId) (p:Pred):Prop:=∀(M:Nat->Nat->Prop) (w:World),cL M w->Calls P f #[] w (bH M p w)
abbrev K1 (P:Program) (f:FuncId) (p0 p:Pred):Prop:=∀(M:Nat->Nat->Prop) (w:World) (v0:Value),cL M w->aO M (λw=>p0 w v0) w->Calls P f #[v0] w (bH M p w)
abbrev K2 (P:Program) (f:FuncId) (p0 p1 p:Pred):Prop:=∀(M:Nat->Nat->Prop) (w:World) (v0 v1:Value),cL M w->aO M (λw=>p0 w v0) w->aO M (λw=>p1 w v1) w->Calls P f #[v0,v1] w (bH M p w)
abbrev K3 (P:Program) (f:FuncId) (p0 p1 p2 p:Pred):Prop:=∀(M:Nat->Nat->Prop) (w:World) (v0 v1 v2:Value),cL M w->aO M (λw=>p0 w v0) w->aO M (λw=>p1 w v1) w->aO M (λw=>p2 w v2) w->Calls P f #[v0,v1,v2] w (bH M p w)
abbrev K4 (P:Program) (f:FuncId) (p0 p1 p2 p3 p:Pred):Prop:=∀(M:Nat->Nat->Prop) (w:World) (v0 v1 v2 v3:Value),cL M w->aO M (λw=>p0 w v0) w->aO M (λw=>p1 w v1) w->aO M (λw=>p2 w v2) w->aO M (λw=>p3 w v3) w->Calls P f #[v0,v1,v2,v3] w (bH M p w)
abbrev K5 (P:Program) (f:FuncId) (p0 p1 p2 p3 p4 p:Pred):Prop:=∀(M:Nat->Nat->Prop) (w:World) (v0 v1 v2 v3 v4:Value),cL M w->aO M (λw=>p0 w v0) w->aO M (λw=>p1 w v1) w->aO M (λw=>p2 w v2) w->aO M (λw=>p3 w v3) w->aO M (λw=>p4 w v4) w->Calls P f #[v0,v1,v2,v3,v4] w (bH M p w)
end Wx

namespace Wx
open Go Go.RowKit
def Z8 (P:Program) (T:TypeId) (len m:Nat):Bool:=match P.underlying T with
 |some (.array n E)=>Nat.beq n len&&Gu P E true m
 |_=>false
theorem Cp {P:Program} {T:TypeId} {len sz k:Nat} (h:Z8 P T len sz=true) (hk:k<len) (cs:List Value) (w:World):(Instr.index T (aj true cs) (.int .i64 (k:Int))).run P w=.ok (aj true ((cs.drop (k*sz)).take sz)) w:=by
 unfold Z8 at h
 split at h
 ·rename_i n E hE
  rw[Bool.and_eq_true]at h
  have e:=Nat.eq_of_beq_eq_true h.1
  subst e
  have hu:(underlying T).run P w=.ok (.array n E) w:=run_underlying hE w
  have ht:=aY h.2
  show(Instr.index T (.agg cs.toArray) _).run P w=_
  simp only[Instr.index,asIntOf,pure_bind,Sem.run_bind,hu,Result.andThen_ok]
  rw[if_pos ⟨by omega,by omega⟩]
  have ha:(isAgg E).run P w=.ok true w:=ht.UE w
  have hz:(Go.sizeOf E).run P w=.ok sz w:=ht.size w
  simp only[part,Sem.run_bind,ha,hz,Result.andThen_ok,Int.toNat_natCast,if_true,Sem.run_pure,aj]
  congr 2
  apply Array.ext'
  simp
 ·cases h
section
variable {P:Program} {ops:Array Oper} {ms:List Nat} {c:fT} {V:List Vr} {A:List Al} {G:List bz} {i:Nat}{d:Nat} {x y z:Operand} {ty:TypeId} {pos:String} {aft:Array Edge}{T:TypeId} {F:Rat->Pred} {j:Nat} {l:List Rat}
theorem iV (len m k:Nat) (h:Has ms G i x (pV F j l):=by exact Wx.hs) (hy:Has ms G i y (pI (k:Int)):=by exact(Wx.hs).imp (bk (by omega))) (hk:k<len:=by omega) (hp:Post G i (pV F j ((l.drop (k*m)).take m)):=by exact pt rfl) (ht:Z8 P T len (m*3)=true:=by kernel_rfl):
  OpOk P ops ms c V A G i ⟨some d,.index T x y,ty,pos,aft,none⟩:=
 pM rfl rfl rfl rfl h hy hp λρ w h1 h2=>by
  obtain⟨cs,e,hc⟩:=h1
  have h2:ρ y=.int .i64 (k:Int):=h2
  refine⟨aj true ((cs.drop (k*(m*3))).take (m*3)),?_,?_⟩
  ·show(do pure (Next.value (<-Instr.index T (ρ x) (ρ y)))).run P w=_
   rw[e,h2,Sem.run_bind]
   have:=Cp ht hk cs w
   rw[show aj true cs=Value.agg cs.toArray from rfl]at this
   rw[this]
   rfl
  ·intro w' k1 _
   rw[e]at k1
   exact zW (k*m) m (by rw[Nat.mul_assoc]) (N:=cs.length) w' cs rfl k1
theorem Zm (len k:Nat) (h:Has ms G i x (pV F j l):=by exact Wx.hs) (hy:Has ms G i y (pI (k:Int)):=by exact(Wx.hs).imp (bk (by omega))) (hk:k<len:=by omega) (hl:k<l.length:=by omega) (hp:Post G i (pQ F j (l.getD k 0)):=by exact pt rfl) (ht:Z8 P T len 3=true:=by kernel_rfl):
  OpOk P ops ms c V A G i ⟨some d,.index T x y,ty,pos,aft,none⟩:=
 pM rfl rfl rfl rfl h hy hp λρ w h1 h2=>by
  obtain⟨cs,e,hc⟩:=h1
  have h2:ρ y=.int .i64 (k:Int):=h2
  refine⟨aj true ((cs.drop (k*3)).take 3),?_,?_⟩
  ·show(do pure (Next.value (<-Instr.index T (ρ x) (ρ y)))).run P w=_
   rw[e,h2,Sem.run_bind]
   have:=Cp ht hk cs w
   rw[show aj true cs=Value.agg cs.toArray from rfl]at this
   rw[this]
   rfl
  ·intro w' k1 _
   rw[e]at k1
   exact wL k rfl hl (N:=cs.length) w' cs rfl k1
end
variable {j:Nat}
theorem abd (hj:1<=j):aZ j (0:Rat):=
 aZ.mono (j:=1) ⟨by show(0:Rat).num.natAbs<2^1; decide,by show(0:Rat).den<2^1; decide⟩ hj
theorem Ud {F:Rat->Pred} {j:Nat} (hj:1<=j):∀{l:List Rat} {w:World} {cs:List Value},aM (l.map (zb F j)) w cs->∀q,aZ j (l.getD q 0)
 |[],_,_,_,q=>by rw[List.getD_nil]; exact abd hj
 |x::l,_,_,⟨_,h2,_⟩,0=>h2.1
 |x::l,_,_,⟨_,_,h3⟩,q+1=>Ud hj h3 q
theorem Uf {F:Rat->Pred} {l:List Rat} {w:World} {v:Value} (hj:1<=j) (h:pV F j l w v):∀q,aZ j (l.getD q 0):=h.elim λ_ h=>Ud hj h.2
section
variable {c:fT} {V:List Vr} {A:List Al} {G:List bz} {a:Act} {w:World}
theorem Inv.bdv {F:Rat->Pred} {s T n j:Nat} {ag:Bool} {l:List Rat} (hI:Inv c V A G none_ a w) (i:Nat) (hj:1<=j) (h:mU i V=some (Vz i s T n ag (pV F j l))):∀q,aZ j (l.getD q 0):=by
 obtain⟨β,hI⟩:=hI
 obtain⟨k,hk⟩:=(fS h).1
 obtain⟨g,_,_,hb⟩:=(bJ rfl).1 (hI.var _ (List.mem_of_getElem? hk) rfl)
 obtain⟨cs,_,_,_,h2⟩:=hb.held
 exact Uf hj h2.out
end
section
variable {P:Program} {ops:Array Oper} {ms:List Nat} {c:fT} {V:List Vr} {A:List Al} {G:List bz} {i:Nat}{d:Nat} {x y z:Operand} {ty:TypeId} {pos:String} {aft:Array Edge}
end
section
variable {F:Rat->Pred} {j k:Nat} {l:List Rat}
theorem SC {off:Nat} {x:Rat} (q:Nat) (ho:off=q*3) (hq:q<l.length) (hk:k<=j) {N:Nat}:∀w cs ds,cs.length=N->ds.length=3->pV F j l w (aj true cs)->pQ F k x w (aj true ds)->pV F j (l.set q x) w (aj true (cs.take off++ds++cs.drop (off+3))):=
 KI q ho hq (Nat.le_refl j) hk
def I5 (l:List Rat) (q:Nat) (m:List Rat):List Rat:=l.take q++m++l.drop (q+m.length)
end
section
variable {P:Program} {ops:Array Oper} {ms:List Nat} {c:fT} {V:List Vr} {A:List Al} {G:List bz} {i:Nat}{d:Nat} {x y z:Operand} {ty:TypeId} {pos:String} {aft:Array Edge}{T:TypeId} {s:Nat} {v:Vr} {al:Al} {F:Rat->Pred} {j k:Nat} {l:List Rat} {r:List (Nat×Rel)}
theorem sJ {x:Rat} (q:Nat) (ha:JM ms i s A=some al:=by exact rfl) (hv:mU al.var V=some v:=by exact rfl) (ho:bE ms i v=true:=by exact rfl) (bR:v.kd=.ptr:=by exact rfl) (hst:(v.st.all λq=>q.1==i||((ms.getD i 0).testBit q.1||(ms.getD q.1 0).testBit i))=true:=by kernel_rfl) (qj:v.agg=true:=by exact rfl)
  (hc:cont (λj=>(ms.getD i 0).testBit j) v.c0 v.st=pv (pV F j l):=by exact rfl) (h:Has ms G i y (pQ F k x):=by exact Wx.hs) (hm:NF i v.st=some (pv (pV F j (l.set q x)),r):=by exact rfl) (hk:k<=j:=by omega) (hr:(r.all λr=>(ms.getD r.1 0).testBit i)=true:=by kernel_rfl) (hq:q<l.length:=by omega) (hoff:al.off=q*3:=by(dsimp only<;>omega)) (hlen:al.off+3<=v.n:=by(dsimp only<;>omega)) (hcd:al.cond:=by trivial) (hf:Fits 3 true (pQ F k x):=by exact oK) (ht:Gu P T true 3=true:=by kernel_rfl)
  (gg:(V.all λy=>y.id==v.id||y.st.all λq=>q.1 != i)=true:=by kernel_rfl):OpOk P ops ms c V A G i ⟨none,.store T (.tmp s) y,ty,pos,aft,none⟩:=
 me ha hv ho bR hst hc h (aY ht) (by rw[qj]; exact SC q hoff hq hk) hm hr hcd hf (decide_eq_true hlen) gg
variable {n:Nat} {m:List Rat}
theorem sW {p:Pred} (q:Nat) (ht:rH P T true n:=by infer_instance) (ha:JM ms i s A=some al:=by exact rfl) (hv:mU al.var V=some v:=by exact rfl) (ho:bE ms i v=true:=by exact rfl) (bR:v.kd=.ptr:=by exact rfl) (hst:(v.st.all λq=>q.1==i||((ms.getD i 0).testBit q.1||(ms.getD q.1 0).testBit i))=true:=by kernel_rfl) (qj:v.agg=true:=by exact rfl)
  (hc:cont (λj=>(ms.getD i 0).testBit j) v.c0 v.st=pv (pV F j l):=by exact rfl) (h:Has ms G i y p:=by exact Wx.hs) (hp:∀w v,p w v->pV F j m w v:=by first|exact xx (by omega)|exact w7.pV (by repeat' (first|exact w7.z|apply w7.c|omega))) (hm:NF i v.st=some (pv (pV F j (I5 l q m)),r):=by exact rfl) (hr:(r.all λr=>(ms.getD r.1 0).testBit i)=true:=by kernel_rfl) (hn:n=m.length*3:=by exact rfl) (hoff:al.off=q*3:=by(dsimp only<;>omega)) (hlen:al.off+n<=v.n:=by(dsimp only<;>omega)) (hcd:al.cond:=by trivial) (hf:Fits n true p:=by exact oK)
  (gg:(V.all λy=>y.id==v.id||y.st.all λq=>q.1 != i)=true:=by kernel_rfl):OpOk P ops ms c V A G i ⟨none,.store T (.tmp s) y,ty,pos,aft,none⟩:=
 me ha hv ho bR hst hc h ht.ok (by rw[qj]; exactλw cs ds h1 h2 h3 h4=>I2 q hoff hn w cs ds h1 h2 h3 (hp _ _ h4)) hm hr hcd hf (decide_eq_true hlen) gg
theorem sP (q:Nat) (ht:rH P T true n:=by infer_instance) (ha:JM ms i s A=some al:=by exact rfl) (hv:mU al.var V=some v:=by exact rfl) (ho:bE ms i v=true:=by exact rfl) (bR:v.kd=.ptr:=by exact rfl) (hst:(v.st.all λq=>q.1==i||((ms.getD i 0).testBit q.1||(ms.getD q.1 0).testBit i))=true:=by kernel_rfl) (qj:v.agg=true:=by exact rfl)
  (hc:cont (λj=>(ms.getD i 0).testBit j) v.c0 v.st=pv (pV au j l):=by exact rfl) (h:Has ms G i y (pV au k m):=by exact Wx.hs) (hk:k<=j:=by omega) (hm:NF i v.st=some (pv (pV au j (I5 l q m)),r):=by exact rfl) (hr:(r.all λr=>(ms.getD r.1 0).testBit i)=true:=by kernel_rfl) (hn:n=m.length*3:=by first|omega|kernel_rfl) (hoff:al.off=q*3:=by(dsimp only<;>omega)) (hlen:al.off+n<=v.n:=by(dsimp only<;>omega)) (hcd:al.cond:=by trivial)
  (gg:(V.all λy=>y.id==v.id||y.st.all λq=>q.1 != i)=true:=by kernel_rfl):OpOk P ops ms c V A G i ⟨none,.store T (.tmp s) y,ty,pos,aft,none⟩:=
 me ha hv ho bR hst hc h ht.ok (by rw[qj]; exactλw cs ds h1 h2 h3 h4=>I2 q hoff hn w cs ds h1 h2 h3 (xx hk _ _ h4)) hm hr hcd (eF (λ_=>cE) hn) (decide_eq_true hlen) gg
end
section
variable {P:Program} {ops:Array Oper} {ms:List Nat} {c:fT} {V:List Vr} {A:List Al} {G:List bz} {i:Nat}{d:Nat} {ty:TypeId} {pos:String} {aft:Array Edge}{f:FuncId} {fx x:Operand} {ts:Array TypeId} {p p1 q1:Pred} {φ:Prop}
theorem XP (sk:φ->∀M w v1,cL M w->aO M (λw=>p1 w v1) w->Calls P f #[v1] w (bH M p w)) (hx:Has ms G i fx (bg (.func (.func f) #[] #[])):=by exact hs) (h1:Has ms G i x q1:=by exact hs) (c1:∀w v,q1 w v->p1 w v:=by exact uk) (hp:Post G i p:=by exact pt rfl) (hφ:φ:=by first|omega|trivial) (hf:aR P f:=by exactλ_ _=>by kernel_rfl):
  OpOk P ops ms c V A G i ⟨some d,.call ⟨.value fx,#[x],ts⟩,ty,pos,aft,none⟩:=
 PR hf hx hp λ_ _ a w hI hd=>(by
  rw[show(#[x]:Array Operand).map a.eval=#[a.eval x] by simp]
  exact sk hφ _ w _ (aS hI) ((h1.imp c1).spec hI hd))
theorem U6 {ψ:Prop} (hψ:ψ) (sk:φ->∀M w v1,cL M w->aO M (λw=>p1 w v1) w->Calls P f #[v1] w (bH M p w)) (hx:Has ms G i fx (bg (.func (.func f) #[] #[])):=by exact hg) (h1:Has ms G i x q1:=by exact hg) (c1:∀w v,q1 w v->p1 w v:=by exact uk) (hp:Post G i p:=by exact pg (by assumption) rfl) (hφ:φ:=by first|omega|trivial) (hf:aR P f:=by exactλ_ _=>by kernel_rfl):
  OpOk P ops ms c V A G i ⟨some d,.call ⟨.value fx,#[x],ts⟩,ty,pos,aft,none⟩:=(λ_:ψ=>XP sk hx h1 c1 hp hφ hf) hψ
theorem lE {T:TypeId} {v:Vr} (J n:Nat) (hJ:1<=J:=by omega) (hv:AF i V=some v:=by exact rfl) (hT:v.T=T:=by exact rfl) (bR:v.kd=.ptr:=by exact rfl) (hc:v.c0=pv (pV au J (List.replicate n 0)):=by exact rfl) (qj:v.agg=true:=by exact rfl)
  (hz:∀w,(zeroValue T).run P w=.ok (.agg ((List.replicate n Zl.r).flatMap Zl.cs).toArray) w:=by exactλ_=>by kernel_rfl) (hl:((List.replicate n Zl.r).flatMap Zl.cs).length=v.n:=by kernel_rfl) (hst:((v.st.all λq=>(ms.getD q.1 0).testBit i)&&V.all λy=>y.dead != some i)=true:=by kernel_rfl) (hno:(G.all λe=>e.tag != some i)=true:=by kernel_rfl) (dX:(A.all λp=>p.var != v.id||p.tag.any λj=>(ms.getD j 0).testBit i)=true:=by kernel_rfl):
  OpOk P ops ms c V A G i ⟨some d,.alloc T,ty,pos,aft,none⟩:=by
 obtain⟨⟨k,hk⟩,hb⟩:=eY hv
 refine kZ k hk hb hst hno dX hT bR hz rfl hl (Az _) hc λw=>?_
 rw[qj]
 have h:=tP (List.replicate n Zl.r) w
 rw[List.map_replicate]at h
 refine xx hJ _ _ ?_
 show pS ((List.replicate n (0:Rat)).map (zb au 1)) w _
 rw[List.map_replicate]
 exact h
end
inductive WL (i:Nat) (q:Pred):List Vr->List Vr->Prop
 |h {s T n:Nat} {ag:Bool} {p:Pred} {V:List Vr} (hq:∀w v,p w v->q w v):WL i q (Vz i s T n ag p::V) (Vz i s T n ag q::V)
 |n {x:Vr} {V V':List Vr}:WL i q V V'->WL i q (x::V) (x::V')
variable {i:Nat} {q:Pred} {V V':List Vr}
theorem WL.get (h:WL i q V V'):∀(k:Nat) (x:Vr),V'[k]?=some x->∃p,V[k]?=some { x with c0:=p }/\∀F w v,p F w v->x.c0 F w v:=by
 induction h with
 |h hq=>
  intro k x hk
  cases k with
  |zero=>cases hk; exact⟨_,rfl,λ_=>hq⟩
  |succ k=>exact⟨x.c0,hk,λ_ _ _ h=>h⟩
 |n _ ih=>
  intro k x hk
  cases k with
  |zero=>cases hk; exact⟨_,rfl,λ_ _ _ h=>h⟩
  |succ k=>exact ih k x hk
def plV (V:List Vr):Bool:=V.all λx=>x.born==none&&x.dead==none&&x.st.isEmpty
def plE (G:List bz):Bool:=G.all λe=>e.tag==none&&e.till==none
theorem Gv (l:List Vr):∀(V:List Vr) (m:Nat),(∀k x,V[k]?=some x->∃p,l[m+k]?=some { x with c0:=p }/\∀F w v,p F w v->x.c0 F w v)->plV V=true->Br l V
 |[],_,_,_=>trivial
 |x::V,m,h,hp=>by
  unfold plV at hp
  simp only[List.all_cons,Bool.and_eq_true,beq_iff_eq,List.isEmpty_iff]at hp
  obtain⟨⟨⟨h1,h2⟩,h3⟩,h4⟩:=hp
  refine⟨?_,Gv l V (m+1) (λk y hk=>by rw[show m+1+k=m+(k+1) by omega]; exact h (k+1) y hk) h4⟩
  obtain⟨p,h5,h6⟩:=h 0 x rfl
  refine⟨m,x.kd,p,?_,⟨h1,h2,h3⟩,rfl,h6⟩
  rw[Nat.add_zero]at h5
  rw[h5]
  cases x
  subst h1 h2 h3
  rfl
theorem zj (l:List bz):∀(G:List bz) (m:Nat),(∀k x,G[k]?=some x->l[m+k]?=some x)->plE G=true->Bo l G
 |[],_,_,_=>trivial
 |x::V,m,h,hp=>by
  unfold plE at hp
  simp only[List.all_cons,Bool.and_eq_true,beq_iff_eq]at hp
  obtain⟨⟨h1,h2⟩,h4⟩:=hp
  refine⟨⟨h1,h2,m,x.p,?_,λ_ _ h=>h⟩,zj l V (m+1) (λk y hk=>by rw[show m+1+k=m+(k+1) by omega]; exact h (k+1) y hk) h4⟩
  have:=h 0 x rfl
  rw[Nat.add_zero]at this
  rw[this]
  cases x
  subst h1 h2
  rfl
theorem Inv.cvS {c:fT} {G:List bz} {a:Act} {w:World} (hI:Inv c V [] G none_ a w) (h:WL i q V V') (hV:plV V'=true:=by kernel_rfl) (hG:plE G=true:=by kernel_rfl):Inv c V' [] G none_ a w:=
 hI.conv (Gv V V' 0 (λk x hk=>by rw[Nat.zero_add]; exact h.get k x hk) hV) (zj G G 0 (λk x hk=>by rw[Nat.zero_add]; exact hk) hG)
end Wx
