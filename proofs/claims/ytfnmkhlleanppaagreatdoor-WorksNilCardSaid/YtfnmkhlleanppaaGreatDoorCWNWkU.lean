import Derived.Laws.Bits64b
import Derived.Test.YtfnmkhlleanppaaGreatDoorJWN39
import Derived.Test.YtfnmkhlleanppaaGreatDoorJWN33
namespace Wx
open Go Go.RowKit Go.Proofs
set_option linter.unusedVariables false
def Ab (u:Value):Prop:=∃m:Int,(0<=m/\m<=255)/\u=.int .u8 m
def tf (n:Nat):Pred:=λ_ v=>∃cs:List Value,v=.agg cs.toArray/\cs.length=n/\∀u∈cs,Ab u
def yo:Pred:=λ_ v=>Ab v
theorem ye (n:Nat):bQ (tf n):=λ_ _ _ _ h _ _=>h
theorem rE:Fits 1 false yo:=by
 rintro w v ⟨m,_,rfl⟩
 exact uh m w _ rfl
section
variable {P:Program} {ops:Array Oper} {ms:List Nat} {c:bD} {V:List Vr} {A:List Al} {G:List aD} {i d:Nat} {x y z:Operand} {ty t u:TypeId} {pos:String} {aj:Array Edge}{T:TypeId} {v:Vr}
theorem Dc (n:Nat) (hv:tF i V=some v:=by exact rfl) (hT:v.T=T:=by exact rfl) (bH:v.kd=.ptr:=by exact rfl) (hc:v.c0=pv (tf n):=by exact rfl) (hag:v.agg=true:=by exact rfl)
  (hz:∀w,(zeroValue T).run P w=.ok (.agg (List.replicate n (.int .u8 0)).toArray) w:=by exactλ_=>by kernel_rfl) (hl:(List.replicate n (Value.int .u8 0)).length=v.n:=by kernel_rfl) (hst:((v.st.all λq=>(ms.getD q.1 0).testBit i)&&V.all λy=>y.dead != some i)=true:=by kernel_rfl) (hno:(G.all λe=>e.tag != some i)=true:=by kernel_rfl) (hal:(A.all λp=>p.var != v.id||p.tag.any λj=>(ms.getD j 0).testBit i)=true:=by kernel_rfl):
  OpOk P ops ms c V A G i ⟨some d,.alloc T,ty,pos,aj,none⟩:=by
 obtain⟨⟨k,hk⟩,hb⟩:=gY hv
 refine gP k hk hb hst hno hal hT bH hz rfl hl (λu hu=>by rw[(List.mem_replicate.1 hu).2]; exact lC 0) hc λw=>?_
 rw[hag]
 exact⟨_,rfl,List.length_replicate,λu hu=>⟨0,by omega,(List.mem_replicate.1 hu).2⟩⟩
variable {b n:Nat}
theorem C5 {off:Nat} {r:List (Nat×Rel)} (N:Nat) (hv:lK N V=some v:=by exact rfl) (ho:bq ms i v=true:=by exact rfl) (bH:v.kd=.obj:=by exact rfl) (hst:(v.st.all λq=>(q.1==i||(ms.getD i 0).testBit q.1)||(ms.getD q.1 0).testBit i)=true:=by kernel_rfl)
  (hc:cont (λj=>(ms.getD i 0).testBit j) v.c0 v.st=oA b n (tf n):=by exact rfl) (h:Has ms G i y (aE (.pointer (some ⟨b,off,none⟩))):=by exact hs) (hz:Has ms G i z yo:=by exact hs) (hlt:off<n:=by omega) (hm:yH i v.st=some (oA b n (tf n),r):=by exact rfl) (ht:yK P T false 1=true:=by kernel_rfl)
  (hr:(r.all λr=>(ms.getD r.1 0).testBit i)=true:=by kernel_rfl) (ej:(V.all λy=>y.id==v.id||y.st.all λq=>q.1 != i)=true:=by kernel_rfl):OpOk P ops ms c V A G i ⟨none,.store T y z,ty,pos,aj,none⟩:=by
 obtain⟨⟨k',hk⟩,_⟩:=cf hv
 obtain⟨m,h5,h6⟩:=iS hm
 refine qx (m:=1) (ag:=false) k' hk ho bH hst m h5 (by rw[h6]; exact hr) ej hc h hlt (cn ht) hz rE (λw cs ds hl hl2 hq hp=>?_) (ye n)
 obtain⟨cs',e,e2,e3⟩:=hq
 have e:Value.agg cs.toArray=.agg cs'.toArray:=e
 have e:cs=cs':=by simpa using e
 subst e
 refine⟨_,rfl,by rw[List.length_append,List.length_append,List.length_take,List.length_drop]; omega,λu hu=>?_⟩
 rcases List.mem_append.1 hu with hu|hu
 ·rcases List.mem_append.1 hu with hu|hu
  ·exact e3 u (List.mem_of_mem_take hu)
  ·match ds,hl2,hu,hp with
   |[u'],_,hu,hp=>
    rw[List.mem_singleton.1 hu]
    exact hp
 ·exact e3 u (List.mem_of_mem_drop hu)
variable {m:Int}
theorem CW {s:ByteArray} (h:Has ms G i x (pT s):=by exact hs) (hy:Has ms G i y (cW m):=by exact hs) (hm:0<=m/\m<s.size:=by omega) (ht:isStr P T=true:=by kernel_rfl) (hp:Post G i yo:=by exact pt rfl):OpOk P ops ms c V A G i ⟨some d,.index T x y,ty,pos,aj,none⟩:=
 bu rfl rfl rfl (.inl rfl) hp λL β a w hI hd=>by
  have e1:a.eval x=.string s:=(h.spec hI hd).out
  have e2:a.eval y=.int .u64 m:=(hy.spec hI hd).out
  have hlt:m.toNat<s.size:=by omega
  refine⟨.int .u8 ((s[m.toNat]'hlt).toNat:Int),w,?_,Below.refl _ _,λ_ _=>⟨_,?_,rfl⟩⟩
  ·show(do pure (Next.value (<-Instr.index T (a.eval x) (a.eval y)))).run P w=_
   rw[e1,e2,Sem.run_bind,run_index_string w T s .u64 m (jf ht),dif_pos hm]
   rfl
  ·have:=(s[m.toNat]'hlt).toNat_lt
   omega
theorem Dd (hm:0<=m/\m<18446744073709551616) (h1:Has ms G i x (cW m):=by exact hs) (h2:Has ms G i y (cW 15):=by exact hs) (hp:Post G i (cW ((m.toNat &&& 15:Nat):Int)):=by exact pt rfl):OpOk P ops ms c V A G i ⟨some d,.binOp .and t x y u,ty,pos,aj,none⟩:=
 bZ h1 h2 (λw=>by
  show(pure (Value.int .u64 (bits .and .u64 m 15)):Sem Value).run P w=_
  have:=bits_and_u64_nat m.toNat 15 (by omega) (by omega)
  rw[show((m.toNat:Nat):Int)=m by omega]at this
  rw[show(15:Int)=((15:Nat):Int)from rfl,this]
  rfl) hp
theorem Ei (h1:Has ms G i x (cW m):=by exact hs) (h2:Has ms G i y (cW 4):=by exact hs) (hp:Post G i (cW (m/16)):=by exact pt rfl):OpOk P ops ms c V A G i ⟨some d,.binOp .shr t x y u,ty,pos,aj,none⟩:=
 bZ h1 h2 (λw=>by
  show(Op.shift .shr .u64 m .u64 4).run P w=_
  rw[shift_shr_any _ _ _ _ (by omega)]
  rfl) hp
theorem Eh {n r:Int} (hr:IntKind.u64.wrap (m-n)=r) (h1:Has ms G i x (cW m):=by exact hs) (h2:Has ms G i y (cW n):=by exact hs) (hp:Post G i (cW r):=by exact pt rfl):OpOk P ops ms c V A G i ⟨some d,.binOp .sub t x y u,ty,pos,aj,none⟩:=
 bZ h1 h2 (λw=>by
  show(pure (Value.int .u64 (IntKind.u64.wrap (m-n))):Sem Value).run P w=_
  rw[hr]
  rfl) hp
theorem Ej (h:Has ms G i x (aE (.pointer (some ⟨b,0,none⟩))):=by exact hs) (hy:Has ms G i y (pI m):=by exact hs)
  (ht:∀w,(Instr.sliceAt T (.pointer (some ⟨b,0,none⟩)) (some (.int .i64 m)) none none).run P w=.ok (.slice (some ⟨b,m.toNat,none⟩) (n-m.toNat) (n-m.toNat)) w:=by exactλ_=>by kernel_rfl) (hp:Post G i (aE (.slice (some ⟨b,m.toNat,none⟩) (n-m.toNat) (n-m.toNat))):=by exact pt rfl):OpOk P ops ms c V A G i ⟨some d,.slice T x (some y) none none,ty,pos,aj,none⟩:=
 bu rfl rfl rfl (.inl rfl) hp λL β a w hI hd=>by
  have hx:a.eval x=.pointer (some ⟨b,0,none⟩):=(h.spec hI hd).out
  have hi:a.eval y=.int .i64 m:=(hy.spec hI hd).out
  refine⟨_,w,?_,Below.refl _ _,λ_ _=>rfl⟩
  show(do pure (Next.value (<-Instr.sliceAt T (a.eval x) (some (a.eval y)) none none))).run P w=_
  rw[hx,hi,Sem.run_bind,ht]
  rfl
theorem Dn {S D:TypeId} {o cap k:Nat} (N:Nat) (hv:lK N V=some v:=by exact rfl) (ho:bq ms i v=true:=by exact rfl) (bH:v.kd=.obj:=by exact rfl) (hst:(v.st.all λq=>(q.1==i||(ms.getD i 0).testBit q.1)||(ms.getD q.1 0).testBit i)=true:=by kernel_rfl)
  (hc:cont (λj=>(ms.getD i 0).testBit j) v.c0 v.st=oA b n (tf n):=by exact rfl) (h:Has ms G i x (aE (.slice (some ⟨b,o,none⟩) k cap)):=by exact hs) (hk:o+k<=n:=by omega) (ht:AY P D S=true:=by kernel_rfl) (hp:Post G i (λ_ v=>∃s:ByteArray,s.size=k/\v=.string s):=by exact pt rfl):OpOk P ops ms c V A G i ⟨some d,.convert S D x,ty,pos,aj,none⟩:=
 bu rfl rfl rfl (.inl rfl) hp λL β a w hI hd=>by
  obtain⟨⟨kk,hkk⟩,_⟩:=cf hv
  obtain⟨_,cs,t,h1,h2,h3,h4⟩:=sN hI hd (List.mem_of_getElem? hkk) ho bH hst hc
  obtain⟨cs',e,e2,e3⟩:=h4
  have e:Value.agg cs.toArray=.agg cs'.toArray:=e
  have e:cs=cs':=by simpa using e
  subst e
  have hx:a.eval x=.slice (some ⟨b,o,none⟩) k cap:=(h.spec hI hd).out
  obtain⟨k1,E,k2,k3⟩:=ri ht
  have hval:∀j,∃m:Nat,j<k->m<=255/\cs[o+j]?=some (.int .u8 (m:Int)):=λj=>by
   by_cases hj:j<k
   ·have hlt:o+j<cs.length:=by omega
    obtain⟨m,hm,e⟩:=e3 _ (List.getElem_mem hlt)
    exact⟨m.toNat,λ_=>⟨by omega,by rw[List.getElem?_eq_getElem hlt,e,show((m.toNat:Nat):Int)=m by omega]⟩⟩
   ·exact⟨0,λh=>absurd h hj⟩
  have hch:=Classical.axiomOfChoice hval
  obtain⟨f,hf⟩:=hch
  let bs:List UInt8:=(List.range k).map λj=>UInt8.ofNat (f j)
  have hbl:bs.length=k:=by simp[bs]
  have vF:=Go.run_convert_bytes_back w S D E ⟨b,o,none⟩ cap bs k2 k3 k1 λj hj=>by
   have hj':j<k:=by omega
   obtain⟨m1,m2⟩:=hf j hj'
   rw[Addr.add_mid]
   have eb:bs[j]=UInt8.ofNat (f j):=by simp[bs]
   rw[eb,UInt8.toNat_ofNat_of_lt' (by show f j<256; omega)]
   simp only[World.cell?,h1]
   simpa using m2
  rw[hbl]at vF
  refine⟨.string ⟨bs.toArray⟩,w,?_,Below.refl _ _,λ_ _=>⟨⟨bs.toArray⟩,?_,rfl⟩⟩
  ·show(do pure (Next.value (<-Go.convert S D (a.eval x)))).run P w=_
   rw[hx,Sem.run_bind,vF]
   rfl
  ·show bs.toArray.size=k
   rw[List.size_toArray,hbl]
end
theorem Ci (_:True):J1 Tryz.prog 180 (cW 16) (pI 4):=λM w v0 hM hG h0=>by
 obtain rfl:v0=.int .u64 16:=h0.out
 refine(Cw w hG.out.2).mono ?_
 rintro en w' ⟨rfl,rfl⟩
 exact⟨_,rfl,λ_ _=>rfl,Below.refl _ _⟩
theorem xS (_:True):K1 Tryz.prog 179 (pI 16) (pB true):=λM w v0 hM h0=>by
 obtain rfl:v0=.int .i64 16:=h0.out
 refine(AG w).mono ?_
 rintro en w' ⟨rfl,rfl⟩
 exact⟨_,rfl,λ_ _=>rfl,Below.refl _ _⟩
end Wx
