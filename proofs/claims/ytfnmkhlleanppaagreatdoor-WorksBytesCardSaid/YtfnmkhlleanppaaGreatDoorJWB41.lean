import Derived.Test.YtfnmkhlleanppaaGreatDoorCWBHeapW
import Derived.Test.YtfnmkhlleanppaaGreatDoorJWB37
import Derived.Laws.Bits64b
import Derived.Test.YtfnmkhlleanppaaGreatDoorJWB31
namespace Wx
open Go Go.RowKit Go.Proofs
set_option linter.unusedVariables false
variable {q:Nat} {l:HL} {bs:List fZ} {cs:List ByteArray} {s:ByteArray} {z:Nat×Nat}
theorem fG.jH (h:fG l bs cs) (hz:gN (aV q l bs cs) (fc l.cb cs.length l.cc) (cs.length+1) z):fG (l.jH z) bs (cs++[s]):=⟨h.b1,h.b2,by rw[List.length_append]; exact hz.1,hz.2.1⟩
theorem fG.nP {s:fZ} (h:fG l bs cs) (hz:gN (aV q l bs cs) (fc l.bb bs.length l.bc) (bs.length+1) z):fG (l.nP z) (bs++[s]) cs:=⟨by rw[List.length_append]; exact hz.1,hz.2.1,h.c1,h.c2⟩
theorem BQ (h:fG l bs cs):(fc l.cb cs.length l.cc=.slice none 0 0/\cs.length=0)\/∃b cap,fc l.cb cs.length l.cc=.slice (some ⟨b,0,none⟩) cs.length cap/\cs.length<=cap/\cap<=maxLen/\fB b (cs.map Value.string) (cap*1)∈aV q l bs cs:=by
 by_cases h0:cs.length=0
 ·exact .inl ⟨if_pos h0,h0⟩
 ·exact .inr ⟨l.cb,l.cc,if_neg h0,h.c1,h.c2,iH h0⟩
theorem BP (h:fG l bs cs):(fc l.bb bs.length l.bc=.slice none 0 0/\bs.length=0)\/∃b cap,fc l.bb bs.length l.bc=.slice (some ⟨b,0,none⟩) bs.length cap/\bs.length<=cap/\cap<=maxLen/\fB b (bs.flatMap gQ) (cap*3)∈aV q l bs cs:=by
 by_cases h0:bs.length=0
 ·exact .inl ⟨if_pos h0,h0⟩
 ·exact .inr ⟨l.bb,l.bc,if_neg h0,h.b1,h.b2,eI h0⟩
theorem AH:∀(w:World) (cs:List Value),cs.length=1*1->(∀i,i<1->pT s w (ah false ((cs.drop (i*1)).take 1)))->cs=[.string s]:=λw cs hl h=>by
 match cs,hl,h with
 |[u],_,h=>
  have:u=.string s:=h 0 (by omega)
  rw[this]
variable {x:fZ}
theorem AG:∀(w:World) (cs:List Value),cs.length=1*3->(∀i,i<1->gY x w (ah true ((cs.drop (i*3)).take 3)))->cs=gQ x:=λw cs hl h=>by
 match cs,hl,h with
 |[u0,u1,u2],_,h=>
  obtain⟨ds,e,_,h0,_,h1,_,h2,_⟩:=h 0 (by omega)
  have e:Value.agg [u0,u1,u2].toArray=.agg ds.toArray:=e
  have e:[u0,u1,u2]=ds:=by simpa using e
  subst e
  have h0:u0=.string x.1:=h0
  have h1:u1=.int .i64 x.2.1:=h1
  have h2:u2=.bool x.2.2:=h2
  rw[h0,h1,h2]
  rfl
theorem wM:∀w v,aJ (fc (l.jH z).cb (cs++[s]).length (l.jH z).cc) w v->aJ (.slice (some ⟨z.1,0,none⟩) (cs.length+1) z.2) w v:=by
 rw[List.length_append,ux (by simp)]
 exactλ_ _ h=>h
theorem A4 {v:Int} {nl:cr (pI v)} (hp:lg (dM (aV q l [x] cs) l.bb 1 ⟨pI v,nl⟩)):(∀e,e∈aV q l [(x.1,v,x.2.2)] cs->e∈dM (aV q l [x] cs) l.bb 1 ⟨pI v,nl⟩)/\lg (aV q l [(x.1,v,x.2.2)] cs):=by
 have hp:=ri hp
 have h0:=List.pairwise_cons.1 hp
 have h1:=List.pairwise_append.1 h0.2
 refine⟨λe he=>?_,?_⟩
 ·unfold dM
  rcases List.mem_cons.1 he with rfl|he
  ·exact List.mem_map.2 ⟨bI l.hb (tE q l 1 cs.length),List.mem_cons_self,jo (h0.1 _ (List.mem_append_left _ (aF.2 ⟨by simp,rfl⟩)))⟩
  ·rcases List.mem_append.1 he with he|he
   ·obtain⟨_,rfl⟩:=aF.1 he
    refine List.mem_map.2 ⟨fB l.bb ([x].flatMap gQ) (l.bc*3),eI (by simp),?_⟩
    refine(if_pos rfl).trans ?_
    have:=vI (l:=[x].flatMap gQ) (p:=l.bc*3) (k:=1) (v:=.int .i64 v) (by show 1<3; omega)
    show bI l.bb ((dQ ([x].flatMap gQ) (l.bc*3)).set 1 (xh (.int .i64 v)))=_
    rw[this]
    rfl
   ·obtain⟨hc,rfl⟩:=aF.1 he
    exact List.mem_map.2 ⟨_,iH hc,jo (h1.2.2 _ (aF.2 ⟨by simp,rfl⟩) _ (aF.2 ⟨hc,rfl⟩)).symm⟩
 ·refine List.pairwise_cons.2 ⟨λe he=>?_,List.pairwise_append.2 ⟨?_,?_,λa ha b hb=>?_⟩⟩
  ·rcases List.mem_append.1 he with he|he
   ·obtain⟨_,rfl⟩:=aF.1 he
    exact h0.1 (fB l.bb ([x].flatMap gQ) (l.bc*3)) (List.mem_append_left _ (aF.2 ⟨by simp,rfl⟩))
   ·exact h0.1 _ (List.mem_append_right _ he)
  ·unfold lB; split<;>simp
  ·unfold lB; split<;>simp
  ·obtain⟨_,rfl⟩:=aF.1 ha
   exact h1.2.2 (fB l.bb ([x].flatMap gQ) (l.bc*3)) (aF.2 ⟨by simp,rfl⟩) b hb
theorem fG.Fs {y:fZ} (h:fG l [x] cs):fG l [y] cs:=⟨h.b1,h.b2,h.c1,h.c2⟩
section
variable {P:Program} {ops:Array Oper} {ms:List Nat} {c:bJ} {V:List Vr} {A:List Al} {G:List aI} {i d:Nat} {x y z:Operand} {ty:TypeId} {pos:String} {au:Array Edge}{T:TypeId}
theorem Du {s:ByteArray} {n:Int} (h1:Has ms G i x (pT s):=by exact hs) (h2:Has ms G i y (pI n):=by exact hs) (hp:Post G i (gY (s,n,false)):=by exact pt rfl) (ht:mG P T #[(0,1),(1,1),(2,1)] [.string ⟨#[]⟩,.int .i64 0,.bool false]:=by exactλ_=>by kernel_rfl):
  OpOk P ops ms c V A G i ⟨some d,.build T #[(0,x),(1,y)],ty,pos,au,none⟩:=
 oT (fs:=[⟨false,1,az⟩,⟨false,1,az⟩,⟨false,1,pB false⟩]) (ps:=[(0,pT s),(1,pI n)]) (gs:=[⟨false,1,pT s⟩,⟨false,1,pI n⟩,⟨false,1,pB false⟩]) ht (mj (by kernel_rfl)) (λw=>⟨by simp,trivial,by simp,trivial,by simp,rfl,rfl⟩) (show bW ms G i _ [(0,x),(1,y)] _ from⟨⟨rfl,h1,_,rfl,aW _⟩,⟨rfl,h2,_,rfl,fits_int _⟩,trivial⟩) rfl hp
theorem BN {b:fZ} (E:TypeId) (ht:eX P T E 3:=by exact⟨by kernel_rfl,λ_=>by kernel_rfl⟩) (jJ:∀w,(zeroValue E).run P w=.ok (.agg #[.string ⟨#[]⟩,.int .i64 0,.bool false]) w:=by exactλ_=>by kernel_rfl) (h1:Has ms G i x (gY b):=by exact hs) (hp:Post G i (ax 3 true 1 λ_=>gY b):=by exact pt rfl):
  OpOk P ops ms c V A G i ⟨some d,.buildSlice T 1 #[(0,x)],ty,pos,au,none⟩:=
 cS (z:=[.string ⟨#[]⟩,.int .i64 0,.bool false]) (fs:=[⟨true,3,az⟩]) (ps:=[(0,gY b)]) (gs:=[⟨true,3,gY b⟩]) (p:=az) ht jJ rfl rfl (by decide) (λ_=>trivial) rfl
  (show bW ms G i [⟨true,3,az⟩] [(0,x)] [(0,gY b)]from⟨⟨rfl,h1,_,rfl,iB _⟩,trivial⟩) rfl (λ_=>gY b) (λk f h=>by
   match k,h with
   |0,h=>simp at h; rw[<-h]
   |k+1,h=>simp at h) hp
end
section
variable {P:Program} {ops:Array Oper} {c:bJ} {V:List Vr} {G:List aI} {id s:Nat} {o:Oper}
theorem FK {H:List Bk} {hv:Value} {N sz:Nat} {l:List Value} {K1:Nat×Nat->Act->World->Prop} (h:∀z:Nat×Nat,gN H hv N z->∀a w,Inv c (aP id s (iq H z.1 (dQ l (z.2*sz)))::V) [] (⟨none,none,s,aJ (.slice (some ⟨z.1,0,none⟩) N z.2)⟩::G) none_ a w->aU P ops o a w (K1 z)) (hu:((aP id s H::V).filter λy=>y.id==id).length=1:=by kernel_rfl):
  ∀a w,Inv c (⟨id,s,none,none,.obj,0,0,false,vt H hv N sz l,[]⟩::V) [] G none_ a w->aU P ops o a w (λa w=>∃z,gN H hv N z/\K1 z a w):=λa w hI=>by
 obtain⟨z,hz,hI⟩:=AP hI 0 rfl (by simp only[List.filter_cons,beq_self_eq_true,if_true,List.length_cons]at hu ⊢; exact hu)
 exact(h z hz a w hI).mono λa w hk=>⟨z,hz,hk⟩
end
end Wx

namespace Wx
set_option maxRecDepth 100000
open Go Go.RowKit Go.Proofs
theorem EF (w:World) (h:w.cell? ⟨7,15,none⟩=some (.int .u8 4)):Calls Tryz.prog 198 #[.int .u64 16] w λen w'=>en=.returned (.int .i64 4)/\w'=w:=by
 go_enter Tryz.func198,Tryz.ntmps198
 have e:IntKind.u64.wrap (bits BinOp.and IntKind.u64 16 (IntKind.u64.wrap (-16))*285870213051353865)/288230376151711744=15:=by kernel_rfl
 go_wp2
 go_ret
 exact⟨rfl,rfl⟩
theorem EE (w:World) (h:w.cell? ⟨7,15,none⟩=some (.int .u8 4)):Calls Tryz.prog 180 #[.int .u64 16] w λen w'=>en=.returned (.int .i64 4)/\w'=w:=by
 go_enter Tryz.func180,Tryz.ntmps180
 go_wp2_with (go_at_call 198; refine(EF _ h).mono ?_; rintro e w' ⟨rfl,rfl⟩)
 go_ret
 exact⟨rfl,rfl⟩
theorem CW (w:World):Calls Tryz.prog 179 #[.int .i64 16] w λen w'=>en=.returned (.bool true)/\w'=w:=by
 go_enter Tryz.func179,Tryz.ntmps179
 go_wp2
 go_ret
 exact⟨rfl,rfl⟩
end Wx

namespace Wx
open Go Go.RowKit Go.Proofs
set_option linter.unusedVariables false
def Cx (u:Value):Prop:=∃m:Int,(0<=m/\m<=255)/\u=.int .u8 m
def vA (n:Nat):Pred:=λ_ v=>∃cs:List Value,v=.agg cs.toArray/\cs.length=n/\∀u∈cs,Cx u
def AV:Pred:=λ_ v=>Cx v
theorem AJ (n:Nat):cr (vA n):=λ_ _ _ _ h _ _=>h
theorem ue:Fits 1 false AV:=by
 rintro w v ⟨m,_,rfl⟩
 exact wG m w _ rfl
section
variable {P:Program} {ops:Array Oper} {ms:List Nat} {c:bJ} {V:List Vr} {A:List Al} {G:List aI} {i d:Nat} {x y z:Operand} {ty t u:TypeId} {pos:String} {au:Array Edge}{T:TypeId} {v:Vr}
theorem Fu (n:Nat) (hv:pL i V=some v:=by exact rfl) (hT:v.T=T:=by exact rfl) (bT:v.kd=.ptr:=by exact rfl) (hc:v.c0=pv (vA n):=by exact rfl) (hag:v.agg=true:=by exact rfl)
  (hz:∀w,(zeroValue T).run P w=.ok (.agg (List.replicate n (.int .u8 0)).toArray) w:=by exactλ_=>by kernel_rfl) (hl:(List.replicate n (Value.int .u8 0)).length=v.n:=by kernel_rfl) (hst:((v.st.all λq=>(ms.getD q.1 0).testBit i)&&V.all λy=>y.dead != some i)=true:=by kernel_rfl) (hno:(G.all λe=>e.tag != some i)=true:=by kernel_rfl) (hal:(A.all λp=>p.var != v.id||p.tag.any λj=>(ms.getD j 0).testBit i)=true:=by kernel_rfl):
  OpOk P ops ms c V A G i ⟨some d,.alloc T,ty,pos,au,none⟩:=by
 obtain⟨⟨k,hk⟩,hb⟩:=dF hv
 refine kI k hk hb hst hno hal hT bT hz rfl hl (λu hu=>by rw[(List.mem_replicate.1 hu).2]; exact cX 0) hc λw=>?_
 rw[hag]
 exact⟨_,rfl,List.length_replicate,λu hu=>⟨0,by omega,(List.mem_replicate.1 hu).2⟩⟩
variable {b n:Nat}
theorem Fl {off:Nat} {r:List (Nat×Rel)} (N:Nat) (hv:pC N V=some v:=by exact rfl) (ho:bD ms i v=true:=by exact rfl) (bT:v.kd=.obj:=by exact rfl) (hst:(v.st.all λq=>(q.1==i||(ms.getD i 0).testBit q.1)||(ms.getD q.1 0).testBit i)=true:=by kernel_rfl)
  (hc:cont (λj=>(ms.getD i 0).testBit j) v.c0 v.st=qy b n (vA n):=by exact rfl) (h:Has ms G i y (aJ (.pointer (some ⟨b,off,none⟩))):=by exact hs) (hz:Has ms G i z AV:=by exact hs) (hlt:off<n:=by omega) (hm:Bb i v.st=some (qy b n (vA n),r):=by exact rfl) (ht:Bf P T false 1=true:=by kernel_rfl)
  (hr:(r.all λr=>(ms.getD r.1 0).testBit i)=true:=by kernel_rfl) (dL:(V.all λy=>y.id==v.id||y.st.all λq=>q.1 != i)=true:=by kernel_rfl):OpOk P ops ms c V A G i ⟨none,.store T y z,ty,pos,au,none⟩:=by
 obtain⟨⟨k',hk⟩,_⟩:=dW hv
 obtain⟨m,h5,h6⟩:=jS hm
 refine sU (m:=1) (ag:=false) k' hk ho bT hst m h5 (by rw[h6]; exact hr) dL hc h hlt (cH ht) hz ue (λw cs ds hl hl2 hq hp=>?_) (AJ n)
 obtain⟨cs',e,e2,e3⟩:=hq
 have e:Value.agg cs.toArray=.agg cs'.toArray:=e
 have e:cs=cs':=by simpa using e
 subst e
 refine⟨_,rfl,by rw[List.length_append,List.length_append,List.length_take,List.length_drop]; omega,λu hu=>?_⟩
 rcases List.mem_append.1 hu with hu|hu
 ·rcases List.mem_append.1 hu with hu|hu
  ·exact e3 u (List.mem_of_mem_take hu)
  ·match ds,hl2,hu,hp with
   |[u'],_,hu,hp=>
    rw[List.mem_singleton.1 hu]
    exact hp
 ·exact e3 u (List.mem_of_mem_drop hu)
variable {m:Int}
theorem E9 {s:ByteArray} (h:Has ms G i x (pT s):=by exact hs) (hy:Has ms G i y (dP m):=by exact hs) (hm:0<=m/\m<s.size:=by omega) (ht:isStr P T=true:=by kernel_rfl) (hp:Post G i AV:=by exact pt rfl):OpOk P ops ms c V A G i ⟨some d,.index T x y,ty,pos,au,none⟩:=
 bk rfl rfl rfl (.inl rfl) hp λL β a w hI hd=>by
  have e1:a.eval x=.string s:=(h.spec hI hd).out
  have e2:a.eval y=.int .u64 m:=(hy.spec hI hd).out
  have hlt:m.toNat<s.size:=by omega
  refine⟨.int .u8 ((s[m.toNat]'hlt).toNat:Int),w,?_,Below.refl _ _,λ_ _=>⟨_,?_,rfl⟩⟩
  ·show(do pure (Next.value (<-Instr.index T (a.eval x) (a.eval y)))).run P w=_
   rw[e1,e2,Sem.run_bind,run_index_string w T s .u64 m (fq ht),dif_pos hm]
   rfl
  ·have:=(s[m.toNat]'hlt).toNat_lt
   omega
theorem Fv (hm:0<=m/\m<18446744073709551616) (h1:Has ms G i x (dP m):=by exact hs) (h2:Has ms G i y (dP 15):=by exact hs) (hp:Post G i (dP ((m.toNat &&& 15:Nat):Int)):=by exact pt rfl):OpOk P ops ms c V A G i ⟨some d,.binOp .and t x y u,ty,pos,au,none⟩:=
 cm h1 h2 (λw=>by
  show(pure (Value.int .u64 (bits .and .u64 m 15)):Sem Value).run P w=_
  have:=bits_and_u64_nat m.toNat 15 (by omega) (by omega)
  rw[show((m.toNat:Nat):Int)=m by omega]at this
  rw[show(15:Int)=((15:Nat):Int)from rfl,this]
  rfl) hp
theorem GG (h1:Has ms G i x (dP m):=by exact hs) (h2:Has ms G i y (dP 4):=by exact hs) (hp:Post G i (dP (m/16)):=by exact pt rfl):OpOk P ops ms c V A G i ⟨some d,.binOp .shr t x y u,ty,pos,au,none⟩:=
 cm h1 h2 (λw=>by
  show(Op.shift .shr .u64 m .u64 4).run P w=_
  rw[shift_shr_any _ _ _ _ (by omega)]
  rfl) hp
theorem GD {n r:Int} (hr:IntKind.u64.wrap (m-n)=r) (h1:Has ms G i x (dP m):=by exact hs) (h2:Has ms G i y (dP n):=by exact hs) (hp:Post G i (dP r):=by exact pt rfl):OpOk P ops ms c V A G i ⟨some d,.binOp .sub t x y u,ty,pos,au,none⟩:=
 cm h1 h2 (λw=>by
  show(pure (Value.int .u64 (IntKind.u64.wrap (m-n))):Sem Value).run P w=_
  rw[hr]
  rfl) hp
theorem GI (h:Has ms G i x (aJ (.pointer (some ⟨b,0,none⟩))):=by exact hs) (hy:Has ms G i y (pI m):=by exact hs)
  (ht:∀w,(Instr.sliceAt T (.pointer (some ⟨b,0,none⟩)) (some (.int .i64 m)) none none).run P w=.ok (.slice (some ⟨b,m.toNat,none⟩) (n-m.toNat) (n-m.toNat)) w:=by exactλ_=>by kernel_rfl) (hp:Post G i (aJ (.slice (some ⟨b,m.toNat,none⟩) (n-m.toNat) (n-m.toNat))):=by exact pt rfl):OpOk P ops ms c V A G i ⟨some d,.slice T x (some y) none none,ty,pos,au,none⟩:=
 bk rfl rfl rfl (.inl rfl) hp λL β a w hI hd=>by
  have hx:a.eval x=.pointer (some ⟨b,0,none⟩):=(h.spec hI hd).out
  have hi:a.eval y=.int .i64 m:=(hy.spec hI hd).out
  refine⟨_,w,?_,Below.refl _ _,λ_ _=>rfl⟩
  show(do pure (Next.value (<-Instr.sliceAt T (a.eval x) (some (a.eval y)) none none))).run P w=_
  rw[hx,hi,Sem.run_bind,ht]
  rfl
theorem FI {S D:TypeId} {o cap k:Nat} (N:Nat) (hv:pC N V=some v:=by exact rfl) (ho:bD ms i v=true:=by exact rfl) (bT:v.kd=.obj:=by exact rfl) (hst:(v.st.all λq=>(q.1==i||(ms.getD i 0).testBit q.1)||(ms.getD q.1 0).testBit i)=true:=by kernel_rfl)
  (hc:cont (λj=>(ms.getD i 0).testBit j) v.c0 v.st=qy b n (vA n):=by exact rfl) (h:Has ms G i x (aJ (.slice (some ⟨b,o,none⟩) k cap)):=by exact hs) (hk:o+k<=n:=by omega) (ht:BO P D S=true:=by kernel_rfl) (hp:Post G i (λ_ v=>∃s:ByteArray,s.size=k/\v=.string s):=by exact pt rfl):OpOk P ops ms c V A G i ⟨some d,.convert S D x,ty,pos,au,none⟩:=
 bk rfl rfl rfl (.inl rfl) hp λL β a w hI hd=>by
  obtain⟨⟨kk,hkk⟩,_⟩:=dW hv
  obtain⟨_,cs,t,h1,h2,h3,h4⟩:=vf hI hd (List.mem_of_getElem? hkk) ho bT hst hc
  obtain⟨cs',e,e2,e3⟩:=h4
  have e:Value.agg cs.toArray=.agg cs'.toArray:=e
  have e:cs=cs':=by simpa using e
  subst e
  have hx:a.eval x=.slice (some ⟨b,o,none⟩) k cap:=(h.spec hI hd).out
  obtain⟨k1,E,k2,k3⟩:=pP ht
  have hval:∀j,∃m:Nat,j<k->m<=255/\cs[o+j]?=some (.int .u8 (m:Int)):=λj=>by
   by_cases hj:j<k
   ·have hlt:o+j<cs.length:=by omega
    obtain⟨m,hm,e⟩:=e3 _ (List.getElem_mem hlt)
    exact⟨m.toNat,λ_=>⟨by omega,by rw[List.getElem?_eq_getElem hlt,e,show((m.toNat:Nat):Int)=m by omega]⟩⟩
   ·exact⟨0,λh=>absurd h hj⟩
  have hch:=Classical.axiomOfChoice hval
  obtain⟨f,hf⟩:=hch
  let bs:List UInt8:=(List.range k).map λj=>UInt8.ofNat (f j)
  have hbl:bs.length=k:=by simp[bs]
  have yy:=Go.run_convert_bytes_back w S D E ⟨b,o,none⟩ cap bs k2 k3 k1 λj hj=>by
   have hj':j<k:=by omega
   obtain⟨m1,m2⟩:=hf j hj'
   rw[Addr.add_mid]
   have eb:bs[j]=UInt8.ofNat (f j):=by simp[bs]
   rw[eb,UInt8.toNat_ofNat_of_lt' (by show f j<256; omega)]
   simp only[World.cell?,h1]
   simpa using m2
  rw[hbl]at yy
  refine⟨.string ⟨bs.toArray⟩,w,?_,Below.refl _ _,λ_ _=>⟨⟨bs.toArray⟩,?_,rfl⟩⟩
  ·show(do pure (Next.value (<-Go.convert S D (a.eval x)))).run P w=_
   rw[hx,Sem.run_bind,yy]
   rfl
  ·show bs.toArray.size=k
   rw[List.size_toArray,hbl]
end
theorem Eo (_:True):J1 Tryz.prog 180 (dP 16) (pI 4):=λM w v0 hM hG h0=>by
 obtain rfl:v0=.int .u64 16:=h0.out
 refine(EE w hG.out.2).mono ?_
 rintro en w' ⟨rfl,rfl⟩
 exact⟨_,rfl,λ_ _=>rfl,Below.refl _ _⟩
theorem Ay (_:True):K1 Tryz.prog 179 (pI 16) (pB true):=λM w v0 hM h0=>by
 obtain rfl:v0=.int .i64 16:=h0.out
 refine(CW w).mono ?_
 rintro en w' ⟨rfl,rfl⟩
 exact⟨_,rfl,λ_ _=>rfl,Below.refl _ _⟩
end Wx
