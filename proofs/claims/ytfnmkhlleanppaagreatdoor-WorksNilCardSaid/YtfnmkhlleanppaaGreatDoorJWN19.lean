import Derived.Lib.ConvBytes
import Derived.Laws.BytesString
import Derived.Laws.Strings
import Derived.Laws.Strings2
import Derived.Test.YtfnmkhlleanppaaGreatDoorCWNWalk
import Derived.Test.YtfnmkhlleanppaaGreatDoorJWN17
namespace Wx
open Go Go.RowKit Go.Proofs Go.Lib
def kO (s:ByteArray) (k:Nat):Int:=((s.data.toList.getD k 0).toNat:Int)
theorem wR (s:ByteArray) (k:Nat):0<=kO s k/\kO s k<=255:=by
 unfold kO
 have:=(s.data.toList.getD k 0).toNat_lt
 omega
abbrev pT (s:ByteArray):Pred:=aE (.string s)
abbrev wz (n:Int):Pred:=aE (.int .u8 n)
abbrev iw (n:Int):Pred:=aE (.int .u32 n)
abbrev Cn (s:ByteArray):Pred:=aK 1 false s.size λk=>wz (kO s k)
theorem oP {s:ByteArray} {k:Nat} (h:k<s.size):kO s k=((s[k]'h).toNat:Int):=by
 unfold kO
 have h':k<s.data.toList.length:=by rw[Array.length_toList]; exact h
 rw[List.getD_eq_getElem?_getD,List.getElem?_eq_getElem h',Option.getD_some,Array.getElem_toList]
 rfl
def isStr (P:Program) (T:TypeId):Bool:=match P.underlying T with
 |some .string=>true
 |_=>false
theorem jf {P:Program} {T:TypeId} (h:isStr P T=true):P.underlying T=some .string:=by
 unfold isStr at h
 split at h
 ·assumption
 ·cases h
section
variable {P:Program} {ops:Array Oper} {ms:List Nat} {c:bD} {V:List Vr} {A:List Al} {G:List aD} {i d:Nat} {x y z:Operand} {ty t u:TypeId} {pos:String} {aj:Array Edge} {s r:ByteArray} {m n:Int}{T:TypeId}
theorem xT (h:Has ms G i x (pT s):=by exact hs) (ht:isStr P T=true:=by kernel_rfl) (hp:Post G i (pI (s.size:Int)):=by exact pt rfl):OpOk P ops ms c V A G i ⟨some d,.call ⟨.builtin .len,#[x],#[T]⟩,ty,pos,aj,none⟩:=
 dw rfl rfl rfl rfl h hp λρ w h=>⟨.int .i64 (s.size:Int),by
  have e:ρ x=.string s:=h
  have hr:(Builtin.len_ #[T] ty #[ρ x]).run P w=.ok (.int .i64 (s.size:Int)) w:=by
   rw[e]
   unfold Builtin.len_
   simp[run_underlying (jf ht),goInt]
  show(do let d <-resolve ρ ⟨.builtin .len,#[x],#[T]⟩ ty; invoke d.target d.args).run P w=_
  simp only[resolve,invoke,pure_bind,builtin]
  rw[show(#[x]:Array Operand).map ρ=#[ρ x] by simp,Sem.run_bind,hr]
  rfl,λ_ _=>rfl⟩
theorem D8 (k:Nat) (h:Has ms G i x (pT s):=by exact hs) (hy:Has ms G i y (pI (k:Int)):=by exact(Wx.hs).imp (fh (by omega))) (hk:k<s.size:=by omega) (ht:isStr P T=true:=by kernel_rfl) (hp:Post G i (wz (kO s k)):=by exact pt rfl):OpOk P ops ms c V A G i ⟨some d,.index T x y,ty,pos,aj,none⟩:=
 dP rfl rfl rfl rfl h hy hp λρ w h hy=>⟨.int .u8 (kO s k),by
  have h:ρ x=.string s:=h
  have hy:ρ y=.int .i64 (k:Int):=hy
  show(do pure (Next.value (<-Instr.index T (ρ x) (ρ y)))).run P w=_
  rw[h,hy,Sem.run_bind,run_index_string w T s .i64 (k:Int) (jf ht),dif_pos ⟨by omega,by omega⟩,oP hk]
  rfl,λ_ _ _=>rfl⟩
def AY (P:Program) (S D:TypeId):Bool:=match P.underlying S,P.underlying D with
 |some .string,some (.slice E)=>match P.underlying E with
  |some (.int .u8)=>true
  |_=>false
 |_,_=>false
variable {S D:TypeId}
theorem ri (h:AY P S D=true):P.underlying S=some .string/\∃E,P.underlying D=some (.slice E)/\P.underlying E=some (.int .u8):=by
 unfold AY at h
 split at h
 ·rename_i E h1 h2
  split at h
  ·rename_i h3
   exact⟨h1,E,h2,h3⟩
  ·cases h
 ·cases h
theorem CH (h:Has ms G i x (pT s):=by exact hs) (ht:AY P S D=true:=by kernel_rfl) (hz:s.size<=1000000000:=by omega) (hp:Post G i (Cn s):=by exact pt rfl):OpOk P ops ms c V A G i ⟨some d,.convert S D x,ty,pos,aj,none⟩:=
 bu rfl rfl rfl (.inl rfl) hp λL β a w hI hd=>by
  have e1:a.eval x=.string s:=(h.spec hI hd).out
  obtain⟨h1,E,h2,h3⟩:=ri ht
  have hb:Below w.heap.size w (bytesWorld w E s):=⟨rfl,rfl,rfl,by rw[bytesWorld_size]; omega,λk hk=>bytesWorld_at_old w E s k hk⟩
  have hcap:s.size<=grownCap w s.size 0 E/\grownCap w s.size 0 E<=maxLen:=by
   have key:∀t:Nat,s.size<=s.size+t%(2^63-s.size)/\s.size+t%(2^63-s.size)<=maxLen:=λt=>by
    have:=Nat.mod_lt t (show 0<2^63-s.size by omega)
    unfold maxLen
    omega
   exact key _
  refine⟨_,_,?_,hb,λw' he=>⟨some ⟨w.heap.size,0,none⟩,grownCap w s.size 0 E,rfl,hcap.1,hcap.2,λ_=>⟨w.heap.size,0,rfl,λk hk=>⟨[.int .u8 (kO s k)],rfl,λj u hu=>?_,rfl⟩⟩⟩⟩
  ·show(do pure (Next.value (<-Go.convert S D (a.eval x)))).run P w=_
   rw[e1,Sem.run_bind,Lib.run_convert_string_bytes w S D E s h1 h2 h3]
   rfl
  ·match j,hu with
   |0,hu=>
    injection hu with hu
    subst hu
    have hc:=bytesWorld_cell w E s k hk
    have hno:∀o,¬own c V L β w.heap.size o:=λo ho=>by have:=iv hI ho; omega
    have:=he.cell w.heap.size k _ (hno k) hc
    rw[show 0+k*1+0=k by omega]
    exact this
end
end Wx

namespace Wx
open Go Go.RowKit
section
variable {ro:Option Nat} {ds:List Deferred} {P:Program} {Q:Exit->Act->World->Prop} {c:bD} {V:List Vr} {G:List aD} {a:Act} {w:World} {fn:Func}{id:Nat} {l:List Oper} {V1 V2:List Vr} {G1 G2:List aD}
theorem CA (h:Inv c V [] G none_ a w) (ms:List Nat) (nv:List Vr) (A1:List Al) (ne:List aD) (hV:kJ nv V V1) (hG:fF ne G G1) (hs:jS P l.toArray ms c V1 A1 G1 0 l) (kV:cx V1 V2) (kG:ah G1 G2) (hk:∀a w,Inv c V2 [] G2 none_ a w->Q .normal a w) (hn:fe nv A1 ne=true:=by kernel_rfl) (hb:tr P c.N l ms V1 A1 G1=true:=by kernel_rfl) (hd:l.all bV=true:=by kernel_rfl):(Code.region id l.toArray true).ww ro ds P Q a w:=by
 unfold tr at hb
 simp only[Bool.and_eq_true,beq_iff_eq]at hb
 obtain⟨hm,hok,mD,hwf⟩:=hb
 exact tH ms hm hok mD hwf hd (cS h hV hG hn) hs λa w hI=>hk a w (dG hwf kV kG hI)
variable {y:Code}
theorem vq (h:Inv c V [] G none_ a w) (ms:List Nat) (nv:List Vr) (A1:List Al) (ne:List aD) (hV:kJ nv V V1) (hG:fF ne G G1) (hs:jS P l.toArray ms c V1 A1 G1 0 l) (kV:cx V1 V2) (kG:ah G1 G2) (hk:∀a w,Inv c V2 [] G2 none_ a w->y.ww ro ds P Q a w) (hn:fe nv A1 ne=true:=by kernel_rfl) (hb:tr P c.N l ms V1 A1 G1=true:=by kernel_rfl) (hd:l.all bV=true:=by kernel_rfl):(Code.seq (Code.region id l.toArray true) y).ww ro ds P Q a w:=
 aq (CA h ms nv A1 ne hV hG hs kV kG hk hn hb hd)
theorem Bg (h:Inv c V [] G none_ a w) (n:Nat) (nv:List Vr) (A1:List Al) (ne:List aD) (hV:kJ nv V V1) (hG:fF ne G G1) (hs:jS P l.toArray (tm n 0) c V1 A1 G1 0 l) (kV:cx V1 V2) (kG:ah G1 G2) (hk:∀a w,Inv c V2 [] G2 none_ a w->Q .normal a w) (hn:fe nv A1 ne=true:=by kernel_rfl) (hb:nj c.N l (tm n 0) V1 A1 G1=true:=by kernel_rfl) (hd:l.all bV=true:=by kernel_rfl):(Code.region id l.toArray false).ww ro ds P Q a w:=by
 unfold nj at hb
 simp only[Bool.and_eq_true,beq_iff_eq]at hb
 obtain⟨mD,hwf⟩:=hb
 exact vw hwf hd (cS h hV hG hn) (by rw[mD]; exact hs) λa w hI=>hk a w (dG hwf kV kG hI)
theorem da (h:Inv c V [] G none_ a w) (n:Nat) (nv:List Vr) (A1:List Al) (ne:List aD) (hV:kJ nv V V1) (hG:fF ne G G1) (hs:jS P l.toArray (tm n 0) c V1 A1 G1 0 l) (kV:cx V1 V2) (kG:ah G1 G2) (hk:∀a w,Inv c V2 [] G2 none_ a w->y.ww ro ds P Q a w) (hn:fe nv A1 ne=true:=by kernel_rfl) (hb:nj c.N l (tm n 0) V1 A1 G1=true:=by kernel_rfl) (hd:l.all bV=true:=by kernel_rfl):(Code.seq (Code.region id l.toArray false) y).ww ro ds P Q a w:=
 aq (Bg h n nv A1 ne hV hG hs kV kG hk hn hb hd)
theorem lQ (h:Inv c [] [] G none_ a w) (n:Nat) (ne:List aD) (hG:fF ne G G1) (hs:jS P l.toArray (tm n 0) c [] [] G1 0 l) (kG:ah G1 G2) (hk:∀a w,Inv c [] [] G2 none_ a w->Q .normal a w) (hn:fe [] [] ne=true:=by kernel_rfl) (hb:nj c.N l (tm n 0) [] [] G1=true:=by kernel_rfl) (hd:l.all bV=true:=by kernel_rfl):(Code.region id l.toArray false).ww ro ds P Q a w:=Bg h n [] [] ne .z hG hs .z kG hk hn hb hd
theorem ai (h:Inv c [] [] G none_ a w) (n:Nat) (ne:List aD) (hG:fF ne G G1) (hs:jS P l.toArray (tm n 0) c [] [] G1 0 l) (kG:ah G1 G2) (hk:∀a w,Inv c [] [] G2 none_ a w->y.ww ro ds P Q a w) (hn:fe [] [] ne=true:=by kernel_rfl) (hb:nj c.N l (tm n 0) [] [] G1=true:=by kernel_rfl) (hd:l.all bV=true:=by kernel_rfl):(Code.seq (Code.region id l.toArray false) y).ww ro ds P Q a w:=aq (lQ h n ne hG hs kG hk hn hb hd)
variable {s:Nat}
theorem dB {v:Value} (hI:Inv c V [] G none_ a w) (hk:dL s G=some (aE v)):a.eval (.tmp s)=v:=by
 obtain⟨k,h⟩:=gy hk
 exact hI.get k h
variable {b:Bool} {x:Code}
theorem Bf (hI:Inv c V [] G none_ a w) (ht:b=true->x.ww ro ds P Q a w) (hf:b=false->y.ww ro ds P Q a w) (hk:dL s G=some (pB b):=by exact rfl):(Code.cond (.tmp s) x y).ww ro ds P Q a w:=iU (dB hI hk) ht hf
theorem qV {φ:Prop} [Decidable φ] {x y:Code} (hI:Inv c V [] G none_ a w) (ht:φ->x.ww ro ds P Q a w) (hf:¬φ->y.ww ro ds P Q a w) (hk:dL s G=some (pB (decide φ)):=by exact rfl):(Code.cond (.tmp s) x y).ww ro ds P Q a w:=iU (dB hI hk) (λh=>ht (of_decide_eq_true h)) λh=>hf (of_decide_eq_false h)
theorem pK (hI:Inv c V [] G none_ a w) (hb:b=true) (ht:x.ww ro ds P Q a w) (hk:dL s G=some (pB b):=by exact rfl):(Code.cond (.tmp s) x y).ww ro ds P Q a w:=iU (dB hI hk) (λ_=>ht) λh=>by rw[hb]at h; cases h
theorem lO (hI:Inv c V [] G none_ a w) (hb:b=false) (hf:y.ww ro ds P Q a w) (hk:dL s G=some (pB b):=by exact rfl):(Code.cond (.tmp s) x y).ww ro ds P Q a w:=iU (dB hI hk) (λh=>by rw[hb]at h; cases h) λ_=>hf
theorem yN {ι:Type} {C:Code} (VF:List Vr) (GF:List aD) (V1:ι->List Vr) (G1:ι->List aD) (φ:ι->Prop) (μ:ι->Nat) (k0:ι) (h0:φ k0) (hI:Inv c V [] G none_ a w) (hV:wG V (VF++V1 k0)) (hG:wF G (GF++G1 k0))
  (round:∀k a w,φ k->Inv c (VF++V1 k) [] (GF++G1 k) none_ a w->C.ww ro ds P (Exit.then (λa w=>∃k',(φ k'/\Inv c (VF++V1 k') [] (GF++G1 k') none_ a w)/\μ k'<μ k) Q) a w):(Code.loop C).ww ro ds P Q a w:=
 vt (λk a w=>φ k/\Inv c (VF++V1 k) [] (GF++G1 k) none_ a w) μ k0 ⟨h0,hI.cv hV hG⟩ λk a w h=>round k a w h.1 h.2
variable {p q:Pred}
theorem cP (h:dL s G=some q:=by exact rfl) (hq:∀w v,q w v->p w v:=by exact ue):bS P V G (.tmp s) p:=rt hq h
theorem Cy {x:Vr} {T:Nat} (h:lK s V=some x:=by exact rfl) (hs:x.slot=s:=by exact rfl) (hb:live none_ x=true:=by exact rfl) (bH:x.kd=.ptr:=by exact rfl) (hc:cont none_ x.c0 x.st=pv q:=by exact rfl) (hq:∀w v,q w v->p w v:=by exact ue) (ht:yK P T x.agg x.n=true:=by kernel_rfl):bS P V G (.cell s T) p:=(cf h).1.elim λk hk=>.imp (.cell k hk hb bH hs (cn ht) hc) hq
end
section
variable {P:Program} {w:World} {fn:Func}{f:FuncId} {C:Code} {M:Nat->Nat->Prop} {p:Pred} {N:Nat}
theorem gv {vs:List Value} {G:List aD} (hf:P.funcs[f]?=some fn) (hb:fn.body=some C) (hN:fn.ntmps=N) (hlen:decide (vs.length<=N)=true) (hM:cQ M w) (hG:dz M w vs G)
  (h:∀a,Inv ⟨N,w,M,λ_=>False⟩ [] [] G none_ a w->C.ww none [] P (bodyPost P fn (bK M p w)) a w):Calls P f vs.toArray w (bK M p w):=
 me hf hb hN hlen hM hG λa hI=>(wpIn_wide (n:=0)).1 (wpIn_mono (h a hI 0) λe a' w' ⟨a0,e0,h0⟩=>by subst e0; exact h0)
theorem vr (hf:P.funcs[f]?=some fn) (hb:fn.body=some C) (hN:fn.ntmps=N) (hlen:decide (([]:List Value).length<=N)=true) (hM:cQ M w) (h:∀a,Inv ⟨N,w,M,λ_=>False⟩ [] [] [] none_ a w->C.ww none [] P (bodyPost P fn (bK M p w)) a w):Calls P f #[] w (bK M p w):=
 gv (vs:=([]:List Value)) hf hb hN hlen hM (show dz M w ([]:List Value) []from trivial) h
variable {v0:Value} {p0:Pred}
theorem fL (hf:P.funcs[f]?=some fn) (hb:fn.body=some C) (hN:fn.ntmps=N) (hlen:decide ([v0].length<=N)=true) (hM:cQ M w) (h0:aL M (λw=>p0 w v0) w) (h:∀a,Inv ⟨N,w,M,λ_=>False⟩ [] [] [Uz 0 p0] none_ a w->C.ww none [] P (bodyPost P fn (bK M p w)) a w):Calls P f #[v0] w (bK M p w):=
 gv (vs:=[v0]) hf hb hN hlen hM (show dz M w [v0] [Uz 0 p0]from⟨⟨rfl,_,rfl,h0⟩,trivial⟩) h
variable {v1:Value} {p1:Pred}
theorem dM (hf:P.funcs[f]?=some fn) (hb:fn.body=some C) (hN:fn.ntmps=N) (hlen:decide ([v0,v1].length<=N)=true) (hM:cQ M w) (h0:aL M (λw=>p0 w v0) w) (h1:aL M (λw=>p1 w v1) w) (h:∀a,Inv ⟨N,w,M,λ_=>False⟩ [] [] [Uz 0 p0,Uz 1 p1] none_ a w->C.ww none [] P (bodyPost P fn (bK M p w)) a w):Calls P f #[v0,v1] w (bK M p w):=
 gv (vs:=[v0,v1]) hf hb hN hlen hM (show dz M w [v0,v1] [Uz 0 p0,Uz 1 p1]from⟨⟨rfl,_,rfl,h0⟩,⟨rfl,_,rfl,h1⟩,trivial⟩) h
theorem CB {v2 v3 v4:Value} {p2 p3 p4:Pred} (hf:P.funcs[f]?=some fn) (hb:fn.body=some C) (hN:fn.ntmps=N) (hlen:decide ([v0,v1,v2,v3,v4].length<=N)=true) (hM:cQ M w) (h0:aL M (λw=>p0 w v0) w) (h1:aL M (λw=>p1 w v1) w) (h2:aL M (λw=>p2 w v2) w) (h3:aL M (λw=>p3 w v3) w) (h4:aL M (λw=>p4 w v4) w) (h:∀a,Inv ⟨N,w,M,λ_=>False⟩ [] [] [Uz 0 p0,Uz 1 p1,Uz 2 p2,Uz 3 p3,Uz 4 p4] none_ a w->C.ww none [] P (bodyPost P fn (bK M p w)) a w):Calls P f #[v0,v1,v2,v3,v4] w (bK M p w):=
 gv (vs:=[v0,v1,v2,v3,v4]) hf hb hN hlen hM (show dz M w [v0,v1,v2,v3,v4] [Uz 0 p0,Uz 1 p1,Uz 2 p2,Uz 3 p3,Uz 4 p4]from⟨⟨rfl,_,rfl,h0⟩,⟨rfl,_,rfl,h1⟩,⟨rfl,_,rfl,h2⟩,⟨rfl,_,rfl,h3⟩,⟨rfl,_,rfl,h4⟩,trivial⟩) h
end
abbrev K0 (P:Program) (f:FuncId) (p:Pred):Prop:=∀(M:Nat->Nat->Prop) (w:World),cQ M w->Calls P f #[] w (bK M p w)
abbrev K1 (P:Program) (f:FuncId) (p0 p:Pred):Prop:=∀(M:Nat->Nat->Prop) (w:World) (v0:Value),cQ M w->aL M (λw=>p0 w v0) w->Calls P f #[v0] w (bK M p w)
abbrev K2 (P:Program) (f:FuncId) (p0 p1 p:Pred):Prop:=∀(M:Nat->Nat->Prop) (w:World) (v0 v1:Value),cQ M w->aL M (λw=>p0 w v0) w->aL M (λw=>p1 w v1) w->Calls P f #[v0,v1] w (bK M p w)
end Wx
