import Derived.Laws.Bits64b
import Derived.Test.YtfnmkhlleanppaaGreatDoorJWC28
import Derived.Test.YtfnmkhlleanppaaGreatDoorCWCHouse
namespace Wx
open Go Go.RowKit Go.Proofs
set_option linter.unusedVariables false
def Ez (u:Value):Prop:=∃m:Int,(0<=m/\m<=255)/\u=.int .u8 m
def zC (n:Nat):Pred:=λ_ v=>∃cs:List Value,v=.agg cs.toArray/\cs.length=n/\∀u∈cs,Ez u
def Fo:Pred:=λ_ v=>Ez v
theorem E0 (n:Nat):aO (zC n):=λ_ _ _ _ h _ _=>h
theorem xL:Fits 1 false Fo:=by
 rintro w v ⟨m,_,rfl⟩
 exact AU m w _ rfl
section
variable {P:Program} {ops:Array Oper} {ms:List Nat} {c:bQ} {V:List Vr} {A:List Al} {G:List aN} {i d:Nat} {x y z:Operand} {ty t u:TypeId} {pos:String} {aft:Array Edge}{T:TypeId} {v:Vr}
theorem LK (n:Nat) (hv:sN i V=some v:=by exact rfl) (hT:v.T=T:=by exact rfl) (bR:v.kd=.ptr:=by exact rfl) (hc:v.c0=pv (zC n):=by exact rfl) (hag:v.agg=true:=by exact rfl)
  (hz:∀w,(zeroValue T).run P w=.ok (.agg (List.replicate n (.int .u8 0)).toArray) w:=by exactλ_=>by kernel_rfl) (hl:(List.replicate n (Value.int .u8 0)).length=v.n:=by kernel_rfl) (hst:((v.st.all λq=>(ms.getD q.1 0).testBit i)&&V.all λy=>y.dead != some i)=true:=by kernel_rfl) (hno:(G.all λe=>e.tag != some i)=true:=by kernel_rfl) (hal:(A.all λp=>p.var != v.id||p.tag.any λj=>(ms.getD j 0).testBit i)=true:=by kernel_rfl):
  OpOk P ops ms c V A G i ⟨some d,.alloc T,ty,pos,aft,none⟩:=by
 obtain⟨⟨k,hk⟩,hb⟩:=eP hv
 refine iL k hk hb hst hno hal hT bR hz rfl hl (λu hu=>by rw[(List.mem_replicate.1 hu).2]; exact kQ 0) hc λw=>?_
 rw[hag]
 exact⟨_,rfl,List.length_replicate,λu hu=>⟨0,by omega,(List.mem_replicate.1 hu).2⟩⟩
variable {b n:Nat}
theorem LC {off:Nat} {r:List (Nat×Rel)} (N:Nat) (hv:ia N V=some v:=by exact rfl) (ho:bC ms i v=true:=by exact rfl) (bR:v.kd=.obj:=by exact rfl) (hst:(v.st.all λq=>(q.1==i||(ms.getD i 0).testBit q.1)||(ms.getD q.1 0).testBit i)=true:=by kernel_rfl)
  (hc:cont (λj=>(ms.getD i 0).testBit j) v.c0 v.st=jo b n (zC n):=by exact rfl) (h:Has ms G i y (aG (.pointer (some ⟨b,off,none⟩))):=by exact hs) (hz:Has ms G i z Fo:=by exact hs) (hlt:off<n:=by omega) (hm:Ci i v.st=some (jo b n (zC n),r):=by exact rfl) (ht:wQ P T false 1=true:=by kernel_rfl)
  (hr:(r.all λr=>(ms.getD r.1 0).testBit i)=true:=by kernel_rfl) (eE:(V.all λy=>y.id==v.id||y.st.all λq=>q.1 != i)=true:=by kernel_rfl):OpOk P ops ms c V A G i ⟨none,.store T y z,ty,pos,aft,none⟩:=by
 obtain⟨⟨k',hk⟩,_⟩:=cH hv
 obtain⟨m,h5,h6⟩:=iV hm
 refine kR (m:=1) (ag:=false) k' hk ho bR hst m h5 (by rw[h6]; exact hr) eE hc h hlt (bV ht) hz xL (λw cs ds hl hl2 hq hp=>?_) (E0 n)
 obtain⟨cs',e,e2,e3⟩:=hq
 have e:Value.agg cs.toArray=.agg cs'.toArray:=e
 have e:cs=cs':=by simpa using e
 subst e
 refine⟨_,rfl,by rw[List.length_append,List.length_append,List.length_take,List.length_drop]; omega,λu hu=>?_⟩
 rcases List.mem_append.1 hu with hu|hu
 ·rcases List.mem_append.1 hu with hu|hu
  ·exact e3 u (List.mem_of_mem_take hu)
  ·match ds,hl2,hu,hp with
   |[u'],_,hu,hp=>
    rw[List.mem_singleton.1 hu]
    exact hp
 ·exact e3 u (List.mem_of_mem_drop hu)
variable {m:Int}
theorem Lo {s:ByteArray} (h:Has ms G i x (pT s):=by exact hs) (hy:Has ms G i y (dn m):=by exact hs) (hm:0<=m/\m<s.size:=by omega) (ht:isStr P T=true:=by kernel_rfl) (hp:Post G i Fo:=by exact pt rfl):OpOk P ops ms c V A G i ⟨some d,.index T x y,ty,pos,aft,none⟩:=
 bD rfl rfl rfl (.inl rfl) hp λL β a w hI hd=>by
  have e1:a.eval x=.string s:=(h.spec hI hd).out
  have e2:a.eval y=.int .u64 m:=(hy.spec hI hd).out
  have hlt:m.toNat<s.size:=by omega
  refine⟨.int .u8 ((s[m.toNat]'hlt).toNat:Int),w,?_,Below.refl _ _,λ_ _=>⟨_,?_,rfl⟩⟩
  ·show(do pure (Next.value (<-Instr.index T (a.eval x) (a.eval y)))).run P w=_
   rw[e1,e2,Sem.run_bind,run_index_string w T s .u64 m (dX ht),dif_pos hm]
   rfl
  ·have:=(s[m.toNat]'hlt).toNat_lt
   omega
theorem KO (hm:0<=m/\m<18446744073709551616) (h1:Has ms G i x (dn m):=by exact hs) (h2:Has ms G i y (dn 15):=by exact hs) (hp:Post G i (dn ((m.toNat &&& 15:Nat):Int)):=by exact pt rfl):OpOk P ops ms c V A G i ⟨some d,.binOp .and t x y u,ty,pos,aft,none⟩:=
 cD h1 h2 (λw=>by
  show(pure (Value.int .u64 (bits .and .u64 m 15)):Sem Value).run P w=_
  have:=bits_and_u64_nat m.toNat 15 (by omega) (by omega)
  rw[show((m.toNat:Nat):Int)=m by omega]at this
  rw[show(15:Int)=((15:Nat):Int)from rfl,this]
  rfl) hp
theorem LA (h1:Has ms G i x (dn m):=by exact hs) (h2:Has ms G i y (dn 4):=by exact hs) (hp:Post G i (dn (m/16)):=by exact pt rfl):OpOk P ops ms c V A G i ⟨some d,.binOp .shr t x y u,ty,pos,aft,none⟩:=
 cD h1 h2 (λw=>by
  show(Op.shift .shr .u64 m .u64 4).run P w=_
  rw[shift_shr_any _ _ _ _ (by omega)]
  rfl) hp
theorem Lz {n r:Int} (hr:IntKind.u64.wrap (m-n)=r) (h1:Has ms G i x (dn m):=by exact hs) (h2:Has ms G i y (dn n):=by exact hs) (hp:Post G i (dn r):=by exact pt rfl):OpOk P ops ms c V A G i ⟨some d,.binOp .sub t x y u,ty,pos,aft,none⟩:=
 cD h1 h2 (λw=>by
  show(pure (Value.int .u64 (IntKind.u64.wrap (m-n))):Sem Value).run P w=_
  rw[hr]
  rfl) hp
theorem LB (h:Has ms G i x (aG (.pointer (some ⟨b,0,none⟩))):=by exact hs) (hy:Has ms G i y (pI m):=by exact hs)
  (ht:∀w,(Instr.sliceAt T (.pointer (some ⟨b,0,none⟩)) (some (.int .i64 m)) none none).run P w=.ok (.slice (some ⟨b,m.toNat,none⟩) (n-m.toNat) (n-m.toNat)) w:=by exactλ_=>by kernel_rfl) (hp:Post G i (aG (.slice (some ⟨b,m.toNat,none⟩) (n-m.toNat) (n-m.toNat))):=by exact pt rfl):OpOk P ops ms c V A G i ⟨some d,.slice T x (some y) none none,ty,pos,aft,none⟩:=
 bD rfl rfl rfl (.inl rfl) hp λL β a w hI hd=>by
  have hx:a.eval x=.pointer (some ⟨b,0,none⟩):=(h.spec hI hd).out
  have hi:a.eval y=.int .i64 m:=(hy.spec hI hd).out
  refine⟨_,w,?_,Below.refl _ _,λ_ _=>rfl⟩
  show(do pure (Next.value (<-Instr.sliceAt T (a.eval x) (some (a.eval y)) none none))).run P w=_
  rw[hx,hi,Sem.run_bind,ht]
  rfl
theorem LU {S D:TypeId} {o cap k:Nat} (N:Nat) (hv:ia N V=some v:=by exact rfl) (ho:bC ms i v=true:=by exact rfl) (bR:v.kd=.obj:=by exact rfl) (hst:(v.st.all λq=>(q.1==i||(ms.getD i 0).testBit q.1)||(ms.getD q.1 0).testBit i)=true:=by kernel_rfl)
  (hc:cont (λj=>(ms.getD i 0).testBit j) v.c0 v.st=jo b n (zC n):=by exact rfl) (h:Has ms G i x (aG (.slice (some ⟨b,o,none⟩) k cap)):=by exact hs) (hk:o+k<=n:=by omega) (ht:Gk P D S=true:=by kernel_rfl) (hp:Post G i (λ_ v=>∃s:ByteArray,s.size=k/\v=.string s):=by exact pt rfl):OpOk P ops ms c V A G i ⟨some d,.convert S D x,ty,pos,aft,none⟩:=
 bD rfl rfl rfl (.inl rfl) hp λL β a w hI hd=>by
  obtain⟨⟨kk,hkk⟩,_⟩:=cH hv
  obtain⟨_,cs,t,h1,h2,h3,h4⟩:=ql hI hd (List.mem_of_getElem? hkk) ho bR hst hc
  obtain⟨cs',e,e2,e3⟩:=h4
  have e:Value.agg cs.toArray=.agg cs'.toArray:=e
  have e:cs=cs':=by simpa using e
  subst e
  have hx:a.eval x=.slice (some ⟨b,o,none⟩) k cap:=(h.spec hI hd).out
  obtain⟨k1,E,k2,k3⟩:=sP ht
  have hval:∀j,∃m:Nat,j<k->m<=255/\cs[o+j]?=some (.int .u8 (m:Int)):=λj=>by
   by_cases hj:j<k
   ·have hlt:o+j<cs.length:=by omega
    obtain⟨m,hm,e⟩:=e3 _ (List.getElem_mem hlt)
    exact⟨m.toNat,λ_=>⟨by omega,by rw[List.getElem?_eq_getElem hlt,e,show((m.toNat:Nat):Int)=m by omega]⟩⟩
   ·exact⟨0,λh=>absurd h hj⟩
  have hch:=Classical.axiomOfChoice hval
  obtain⟨f,hf⟩:=hch
  let bs:List UInt8:=(List.range k).map λj=>UInt8.ofNat (f j)
  have hbl:bs.length=k:=by simp[bs]
  have rq:=Go.run_convert_bytes_back w S D E ⟨b,o,none⟩ cap bs k2 k3 k1 λj hj=>by
   have hj':j<k:=by omega
   obtain⟨m1,m2⟩:=hf j hj'
   rw[Addr.add_mid]
   have eb:bs[j]=UInt8.ofNat (f j):=by simp[bs]
   rw[eb,UInt8.toNat_ofNat_of_lt' (by show f j<256; omega)]
   simp only[World.cell?,h1]
   simpa using m2
  rw[hbl]at rq
  refine⟨.string ⟨bs.toArray⟩,w,?_,Below.refl _ _,λ_ _=>⟨⟨bs.toArray⟩,?_,rfl⟩⟩
  ·show(do pure (Next.value (<-Go.convert S D (a.eval x)))).run P w=_
   rw[hx,Sem.run_bind,rq]
   rfl
  ·show bs.toArray.size=k
   rw[List.size_toArray,hbl]
end
theorem HH (_:True):J1 Tryz.prog 180 (dn 16) (pI 4):=λM w v0 hM hG h0=>by
 obtain rfl:v0=.int .u64 16:=h0.out
 refine(KH w hG.out.2).mono ?_
 rintro en w' ⟨rfl,rfl⟩
 exact⟨_,rfl,λ_ _=>rfl,Below.refl _ _⟩
theorem yH (_:True):K1 Tryz.prog 179 (pI 16) (pB true):=λM w v0 hM h0=>by
 obtain rfl:v0=.int .i64 16:=h0.out
 refine(Ib w).mono ?_
 rintro en w' ⟨rfl,rfl⟩
 exact⟨_,rfl,λ_ _=>rfl,Below.refl _ _⟩
end Wx

namespace Wx
set_option maxRecDepth 100000
open Go Go.RowKit Go.Proofs
theorem tN (e:Int) (w:World):Calls Tryz.prog 127 #[.bool true,.int .i64 e] w λen w'=>en=.panicked [{ v:=.iface 123 (.agg #[.int .i64 e]),recovered:=false }]/\w'=w:=by
 go_enter Tryz.func127,Tryz.ntmps127
 go_wp2
 exact⟨rfl,rfl,rfl⟩
theorem wH (e:Int) (w:World):Calls Tryz.prog 127 #[.bool false,.int .i64 e] w λen w'=>en=.returned (.tuple #[])/\w'=w:=by
 go_enter Tryz.func127,Tryz.ntmps127
 go_wp2
 exact⟨rfl,_,results_none rfl _ _ _,rfl,rfl⟩
end Wx

namespace Wx
open Go Go.RowKit Go.Proofs
set_option linter.unusedVariables false
def gz:ig:=(⟨#[]⟩,0,false)
def I0 (l:HL) (bs:List ig):Pred:=λw v=>v=gm l.bb bs.length l.bc/\aI 3 true bs.length (λk=>jn (bs.getD k gz)) w v
variable {l:HL} {bs:List ig}
theorem oW:∀w v,I0 l bs w v->aI 3 true bs.length (λk=>jn (bs.getD k gz)) w v:=λ_ _ h=>h.2
theorem AE {x:ig}:∀w v,I0 l [x] w v->aG (.slice (some ⟨l.bb,0,none⟩) 1 l.bc) w v:=λ_ _ h=>h.1
theorem jK (l:HL) (bs:List ig):Fits 1 false (I0 l bs):=by
 rintro w v ⟨rfl,_⟩
 unfold gm
 split
 ·exact cg (bu _ _ _) rfl rfl w _ rfl
 ·exact cg (bu _ _ _) rfl rfl w _ rfl
def Fi (l:HL) (bs:List ig):Pred:=dM 7 true (pS [⟨false,1,aT⟩,⟨false,1,aT⟩,⟨false,1,I0 l bs⟩,⟨false,1,aT⟩,⟨false,1,aT⟩,⟨false,1,aT⟩,⟨false,1,aT⟩])
variable {w:World}
theorem xp {b:Nat} {its:List It} (h:(bI b its).ok w):∃(cs:List Value) (T:TypeId),w.heap[b]?=some (.cells cs.toArray T (0,0))/\its.length<=cs.length/\∀(i:Nat) (it:It) (v:Value),its[i]?=some it->cs[i]?=some v->it.p w v:=by
 obtain⟨cs,T,h1,h2,h3,h4⟩:=h
 refine⟨cs,T,h1,by simpa using h2,λi it v hi hv=>?_⟩
 have:=h4 i it hi
 obtain⟨hlt,e⟩:=List.getElem?_eq_some_iff.1 hv
 have this:it.p w (aq false ((cs.drop (i*1)).take 1)):=this
 rw[Nat.mul_one,List.drop_eq_getElem_cons hlt,e]at this
 exact this
variable {B:Nat->Prop} {q:Nat} {cs:List ByteArray}
theorem AD (h:cn B w (bq q l bs cs)) (hl:gN l bs cs) (h1:bs.length<=1):aI 3 true bs.length (λk=>jn (bs.getD k gz)) w (gm l.bb bs.length l.bc):=by
 match bs,h,hl,h1 with
 |[],h,hl,_=>exact⟨none,0,rfl,Nat.le_refl _,Nat.zero_le _,λh=>absurd h (Nat.lt_irrefl _)⟩
 |[x],h,hl,_=>
  obtain⟨cs',T,k1,k2,k3⟩:=xp (h.2.2 _ (fH (by simp)))
  refine⟨some ⟨l.bb,0,none⟩,l.bc,rfl,hl.b1,hl.b2,λ_=>⟨l.bb,0,rfl,λi hi=>?_⟩⟩
  obtain rfl:i=0:=by have hi:i<1:=hi; omega
  have hlen:3<=cs'.length:=by
   rw[gI]at k2
   have:([x].flatMap ja).length=3:=rfl
   omega
  match cs',hlen,k1,k3 with
  |c0::c1::c2::r,_,k1,k3=>
   have e0:c0=.string x.1:=k3 0 _ c0 (fQ (k:=0) (l:=[x].flatMap ja) (by show 0<3; omega)) rfl
   have e1:c1=.int .i64 x.2.1:=k3 1 _ c1 (fQ (k:=1) (l:=[x].flatMap ja) (by show 1<3; omega)) rfl
   have e2:c2=.bool x.2.2:=k3 2 _ c2 (fQ (k:=2) (l:=[x].flatMap ja) (by show 2<3; omega)) rfl
   refine⟨[c0,c1,c2],rfl,λj u hj=>?_,[c0,c1,c2],rfl,?_⟩
   ·simp only[World.cell?,k1]
    match j,hj with
    |0,hj=>exact hj
    |1,hj=>exact hj
    |2,hj=>exact hj
    |j+3,hj=>simp at hj
   ·exact⟨by simp,e0,by simp,e1,by simp,e2,rfl⟩
theorem iR {u:Value} (hl:gN l bs cs) (h1:bs.length<=1) (h:cn B w (bq q l bs cs)) (hu:aG (.pointer (some ⟨l.hb,0,none⟩)) w u):Fi l bs w u:=by
 obtain⟨cs',T,k1,k2,k3⟩:=xp (h.2.2 _ (cO q l bs cs))
 have hrow:=AD h hl h1
 have k2:7<=cs'.length:=k2
 match cs',k2,k1,k3 with
 |c0::c1::c2::c3::c4::c5::c6::r,_,k1,k3=>
  have e2:c2=gm l.bb bs.length l.bc:=k3 2 _ c2 rfl rfl
  refine⟨l.hb,0,[c0,c1,c2,c3,c4,c5,c6],hu,rfl,λj v hj=>?_,[c0,c1,c2,c3,c4,c5,c6],rfl,?_⟩
  ·simp only[World.cell?,k1]
   match j,hj with
   |0,hj=>exact hj
   |1,hj=>exact hj
   |2,hj=>exact hj
   |3,hj=>exact hj
   |4,hj=>exact hj
   |5,hj=>exact hj
   |6,hj=>exact hj
   |j+7,hj=>simp at hj
  ·exact⟨by simp,trivial,by simp,trivial,by simp,⟨e2,by show aI _ _ _ _ w c2; rw[e2]; exact hrow⟩,by simp,trivial,by simp,trivial,by simp,trivial,by simp,trivial,rfl⟩
section
variable {P:Program} {ops:Array Oper} {ms:List Nat} {c:bQ} {V:List Vr} {A:List Al} {G:List aN} {i d:Nat} {x y z:Operand} {ty:TypeId} {pos:String} {aft:Array Edge} {a:Act} {w:World} {fn:Func}{q:Pred}
theorem F3 {sz:Nat} {ag:Bool} (h:Has ms G i x (dM sz ag q):=by exact hs) (hp:Post G i (dM sz ag q):=by exact pt rfl):OpOk P ops ms c V A G i ⟨some d,.nilCheck x,ty,pos,aft,none⟩:=
 bD rfl rfl rfl (.inl rfl) hp λL β a w hI hd=>by
  have hr:=h.spec hI hd
  obtain⟨b,o,cs,e,_⟩:=hr.out
  refine⟨a.eval x,w,?_,Below.refl _ _,hr⟩
  simp only[execOp,e]
  rfl
variable {T:TypeId} {n:Nat}
theorem MT {E:TypeId} {b o' cap:Nat} (sz:Nat) (m:Int) (h:Has ms G i x q) (cq:∀w v,q w v->aG (.slice (some ⟨b,o',none⟩) n cap) w v) (hy:Has ms G i y (pI m)) (ht:iZ P T E sz) (h0:0<=m) (h1:m<n) (hp:Post G i (aG (.pointer (some ⟨b,o'+m.toNat*sz,none⟩))):=by exact pt rfl) (hA:(A.all λq=>q.tag != some i)=true:=by kernel_rfl):
  OpOk P ops ms c V A G i ⟨some d,.indexAddr T x y,ty,pos,aft,none⟩:=tH (h.imp cq) hy ht h0 h1 hA hp
theorem lQ {α:Type} {C:α->Prop} {o:Oper} {K K1:α->Act->World->Prop} (h:∀x,C x->∀a w,K x a w->aW P ops o a w (K1 x)):∀a w,(∃x,C x/\K x a w)->aW P ops o a w (λa w=>∃x,C x/\K1 x a w):=λa w ⟨x,hc,hx⟩=>(h x hc a w hx).mono λa w h=>⟨x,hc,h⟩
variable {id s:Nat} {H:List Bk} {q1 q2:Pred}
theorem I8 {tx:TypeId} {m:Nat} {f:Nat->Pred} {hv:Value} (E:TypeId) (sz:Nat) (ag:Bool) (l l':List Value) (ht:lf P T tx E sz) (h1:Has [0] G 0 x q1) (c1:∀w v,q1 w v->aG hv w v) (h2:Has [0] G 0 y q2) (c2:∀w v,q2 w v->aI sz ag m f w v) (hl0:l.length=n*sz) (hag:ag=false->sz=1) (GX:∀i,i<m->Fits sz ag (f i)) (hnews:∀(w:World) (cs:List Value),cs.length=m*sz->(∀i,i<m->f i w (aq ag ((cs.drop (i*sz)).take sz)))->cs=l')
  (rj:(hv=.slice none 0 0/\n=0)\/∃b cap,hv=.slice (some ⟨b,0,none⟩) n cap/\n<=cap/\cap<=maxLen/\fB b l (cap*sz)∈H)
  (hmax:n+m<=1073741824) (hpos:0<m) (hd':decide (d<c.N)=true:=by kernel_rfl)
  (hV:((aZ id s H::V).all λy=>(y.slot != d)&&(y.born.isNone&&y.dead.isNone))=true:=by kernel_rfl) (hu:((aZ id s H::V).filter λy=>y.id==id).length=1:=by kernel_rfl) (hG:(G.all λe=>e.slot != d)=true:=by kernel_rfl):∀a w,Inv c (aZ id s H::V) [] G none_ a w ->
  aW P ops ⟨some d,.call ⟨.builtin .append,#[x,y],#[T,tx]⟩,ty,pos,aft,none⟩ a w (λa w=>∃z:Nat×Nat,iX H hv (n+m) z/\Inv c (aZ id s (jA H z.1 (eI (l++l') (z.2*sz)))::V) [] (⟨none,none,d,aG (.slice (some ⟨z.1,0,none⟩) (n+m) z.2)⟩::G) none_ a w):=λa w h=>
 LL (n0:=0) rfl (h1.imp c1) (h2.imp c2) hl0 hag GX hnews rj ht hmax hd' hV hu hG hpos h
theorem DR {Λ:Type} {C:Λ->Prop} {hd:Λ->Value} {Hl:Λ->List Bk} {f:FuncId} {p1 p2:Pred} {ts:Array TypeId} (kK:aJ (λk o=>c.M0 k o\/c.dc k) jd c.w0) (gj:L2 P f H p1 p2 C (λl=>.returned (hd l)) Hl) (h1:Has [0] G 0 x q1:=by exact hs) (c1:∀w v,q1 w v->p1 w v:=by exact jw) (h2:Has [0] G 0 y q2:=by exact hs) (c2:∀w v,q2 w v->p2 w v:=by exact jw)
  (hf:aK P f:=by exactλ_ _=>by kernel_rfl) (hd':decide (d<c.N)=true:=by kernel_rfl)
  (hV:((aZ id s H::V).all λy=>(y.slot != d)&&(y.born.isNone&&y.dead.isNone))=true:=by kernel_rfl) (hu:((aZ id s H::V).filter λy=>y.id==id).length=1:=by kernel_rfl) (hG:(G.all λe=>e.slot != d)=true:=by kernel_rfl):∀a w,Inv c (aZ id s H::V) [] G none_ a w ->
  aW P ops ⟨some d,.call ⟨.value (.func f),#[x,y],ts⟩,ty,pos,aft,none⟩ a w (λa w=>∃l,C l/\Inv c (aZ id s (Hl l)::V) [] (⟨none,none,d,aG (hd l)⟩::G) none_ a w):=
 Jg 0 kK gj h1 c1 h2 c2 rfl hf hd' hV hu hG
end
theorem jY {e:Int} (_:True):K2 Tryz.prog 127 (pB false) (pI e) (aG (.tuple #[])):=λM w v0 v1 hM h0 h1=>by
 obtain rfl:v0=.bool false:=h0.out
 obtain rfl:v1=.int .i64 e:=h1.out
 refine(wH e w).mono ?_
 rintro en w' ⟨rfl,rfl⟩
 exact⟨_,rfl,λ_ _=>rfl,Below.refl _ _⟩
end Wx
