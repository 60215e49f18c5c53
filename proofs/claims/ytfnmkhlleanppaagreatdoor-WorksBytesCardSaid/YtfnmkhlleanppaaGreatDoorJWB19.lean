import Derived.Lib.ConvBytes
import Derived.Laws.BytesString
import Derived.Laws.Strings
import Derived.Laws.Strings2
import Derived.Test.YtfnmkhlleanppaaGreatDoorCWBWalk
import Derived.Test.YtfnmkhlleanppaaGreatDoorJWB17
namespace Wx
open Go Go.RowKit Go.Proofs Go.Lib
def bO (s:ByteArray) (k:Nat):Int:=((s.data.toList.getD k 0).toNat:Int)
theorem jc (s:ByteArray) (k:Nat):0<=bO s k/\bO s k<=255:=by
 unfold bO
 have:=(s.data.toList.getD k 0).toNat_lt
 omega
abbrev pT (s:ByteArray):Pred:=aJ (.string s)
abbrev fD (n:Int):Pred:=aJ (.int .u8 n)
abbrev gD (n:Int):Pred:=aJ (.int .u32 n)
abbrev fY (s:ByteArray):Pred:=ax 1 false s.size λk=>fD (bO s k)
theorem ew {s:ByteArray} {k:Nat} (h:k<s.size):bO s k=((s[k]'h).toNat:Int):=by
 unfold bO
 have h':k<s.data.toList.length:=by rw[Array.length_toList]; exact h
 rw[List.getD_eq_getElem?_getD,List.getElem?_eq_getElem h',Option.getD_some,Array.getElem_toList]
 rfl
def isStr (P:Program) (T:TypeId):Bool:=match P.underlying T with
 |some .string=>true
 |_=>false
theorem fq {P:Program} {T:TypeId} (h:isStr P T=true):P.underlying T=some .string:=by
 unfold isStr at h
 split at h
 ·assumption
 ·cases h
section
variable {P:Program} {ops:Array Oper} {ms:List Nat} {c:bJ} {V:List Vr} {A:List Al} {G:List aI} {i d:Nat} {x y z:Operand} {ty t u:TypeId} {pos:String} {au:Array Edge} {s r:ByteArray} {m n:Int}{T:TypeId}
theorem sN (h:Has ms G i x (pT s):=by exact hs) (ht:isStr P T=true:=by kernel_rfl) (hp:Post G i (pI (s.size:Int)):=by exact pt rfl):OpOk P ops ms c V A G i ⟨some d,.call ⟨.builtin .len,#[x],#[T]⟩,ty,pos,au,none⟩:=
 eC rfl rfl rfl rfl h hp λρ w h=>⟨.int .i64 (s.size:Int),by
  have e:ρ x=.string s:=h
  have hr:(Builtin.len_ #[T] ty #[ρ x]).run P w=.ok (.int .i64 (s.size:Int)) w:=by
   rw[e]
   unfold Builtin.len_
   simp[run_underlying (fq ht),goInt]
  show(do let d <-resolve ρ ⟨.builtin .len,#[x],#[T]⟩ ty; invoke d.target d.args).run P w=_
  simp only[resolve,invoke,pure_bind,builtin]
  rw[show(#[x]:Array Operand).map ρ=#[ρ x] by simp,Sem.run_bind,hr]
  rfl,λ_ _=>rfl⟩
theorem Gs (k:Nat) (h:Has ms G i x (pT s):=by exact hs) (hy:Has ms G i y (pI (k:Int)):=by exact(Wx.hs).imp (bV (by omega))) (hk:k<s.size:=by omega) (ht:isStr P T=true:=by kernel_rfl) (hp:Post G i (fD (bO s k)):=by exact pt rfl):OpOk P ops ms c V A G i ⟨some d,.index T x y,ty,pos,au,none⟩:=
 dz rfl rfl rfl rfl h hy hp λρ w h hy=>⟨.int .u8 (bO s k),by
  have h:ρ x=.string s:=h
  have hy:ρ y=.int .i64 (k:Int):=hy
  show(do pure (Next.value (<-Instr.index T (ρ x) (ρ y)))).run P w=_
  rw[h,hy,Sem.run_bind,run_index_string w T s .i64 (k:Int) (fq ht),dif_pos ⟨by omega,by omega⟩,ew hk]
  rfl,λ_ _ _=>rfl⟩
theorem zh {lo hi:Option Value} {e:ByteArray} (w:World) (ht:isStr P T=true) (h:(Instr.slice T (.string s) lo hi none).run P w=.ok (.string e) w):(do pure (Next.value (<-Instr.sliceAt T (.string s) lo hi none))).run P w=.ok (.value (.string e)) w:=by
 rw[Sem.run_bind,run_sliceAt_string w T _ lo hi none (fq ht),h]
 rfl
theorem EB (k:Nat) (h:Has ms G i x (pT s):=by exact hs) (hy:Has ms G i y (pI (k:Int)):=by exact(Wx.hs).imp (bV (by omega))) (hk:k<=s.size:=by omega) (ht:isStr P T=true:=by kernel_rfl) (hp:Post G i (pT (s.extract k s.size)):=by exact pt rfl):OpOk P ops ms c V A G i ⟨some d,.slice T x (some y) none none,ty,pos,au,none⟩:=
 dz rfl rfl rfl rfl h hy hp λρ w h hy=>⟨.string (s.extract k s.size),by
  have h:ρ x=.string s:=h
  have hy:ρ y=.int .i64 (k:Int):=hy
  show(do pure (Next.value (<-Instr.sliceAt T (ρ x) (some (ρ y)) none none))).run P w=_
  rw[h,hy]
  exact zh w ht (run_slice_string_l w T s (fq ht) .i64 (k:Int) (by omega) (by omega)),λ_ _ _=>rfl⟩
theorem EA (k:Nat) (h:Has ms G i x (pT s):=by exact hs) (hy:Has ms G i y (pI (k:Int)):=by exact(Wx.hs).imp (bV (by omega))) (hk:k<=s.size:=by omega) (ht:isStr P T=true:=by kernel_rfl) (hp:Post G i (pT (s.extract 0 k)):=by exact pt rfl):OpOk P ops ms c V A G i ⟨some d,.slice T x none (some y) none,ty,pos,au,none⟩:=
 dz rfl rfl rfl rfl h hy hp λρ w h hy=>⟨.string (s.extract 0 k),by
  have h:ρ x=.string s:=h
  have hy:ρ y=.int .i64 (k:Int):=hy
  show(do pure (Next.value (<-Instr.sliceAt T (ρ x) none (some (ρ y)) none))).run P w=_
  rw[h,hy]
  exact zh w ht (run_slice_string_h w T s (fq ht) .i64 (k:Int) (by omega) (by omega)),λ_ _ _=>rfl⟩
def BO (P:Program) (S D:TypeId):Bool:=match P.underlying S,P.underlying D with
 |some .string,some (.slice E)=>match P.underlying E with
  |some (.int .u8)=>true
  |_=>false
 |_,_=>false
variable {S D:TypeId}
theorem pP (h:BO P S D=true):P.underlying S=some .string/\∃E,P.underlying D=some (.slice E)/\P.underlying E=some (.int .u8):=by
 unfold BO at h
 split at h
 ·rename_i E h1 h2
  split at h
  ·rename_i h3
   exact⟨h1,E,h2,h3⟩
  ·cases h
 ·cases h
theorem ER (h:Has ms G i x (pT s):=by exact hs) (ht:BO P S D=true:=by kernel_rfl) (hz:s.size<=1000000000:=by omega) (hp:Post G i (fY s):=by exact pt rfl):OpOk P ops ms c V A G i ⟨some d,.convert S D x,ty,pos,au,none⟩:=
 bk rfl rfl rfl (.inl rfl) hp λL β a w hI hd=>by
  have e1:a.eval x=.string s:=(h.spec hI hd).out
  obtain⟨h1,E,h2,h3⟩:=pP ht
  have hb:Below w.heap.size w (bytesWorld w E s):=⟨rfl,rfl,rfl,by rw[bytesWorld_size]; omega,λk hk=>bytesWorld_at_old w E s k hk⟩
  have hcap:s.size<=grownCap w s.size 0 E/\grownCap w s.size 0 E<=maxLen:=by
   have key:∀t:Nat,s.size<=s.size+t%(2^63-s.size)/\s.size+t%(2^63-s.size)<=maxLen:=λt=>by
    have:=Nat.mod_lt t (show 0<2^63-s.size by omega)
    unfold maxLen
    omega
   exact key _
  refine⟨_,_,?_,hb,λw' he=>⟨some ⟨w.heap.size,0,none⟩,grownCap w s.size 0 E,rfl,hcap.1,hcap.2,λ_=>⟨w.heap.size,0,rfl,λk hk=>⟨[.int .u8 (bO s k)],rfl,λj u hu=>?_,rfl⟩⟩⟩⟩
  ·show(do pure (Next.value (<-Go.convert S D (a.eval x)))).run P w=_
   rw[e1,Sem.run_bind,Lib.run_convert_string_bytes w S D E s h1 h2 h3]
   rfl
  ·match j,hu with
   |0,hu=>
    injection hu with hu
    subst hu
    have hc:=bytesWorld_cell w E s k hk
    have hno:∀o,¬own c V L β w.heap.size o:=λo ho=>by have:=jm hI ho; omega
    have:=he.cell w.heap.size k _ (hno k) hc
    rw[show 0+k*1+0=k by omega]
    exact this
end
end Wx

namespace Wx
open Go Go.RowKit
section
variable {ro:Option Nat} {ds:List Deferred} {P:Program} {Q:Exit->Act->World->Prop} {c:bJ} {V:List Vr} {G:List aI} {a:Act} {w:World} {fn:Func}{id:Nat} {l:List Oper} {V1 V2:List Vr} {G1 G2:List aI}
theorem Dp (h:Inv c V [] G none_ a w) (ms:List Nat) (nv:List Vr) (A1:List Al) (ne:List aI) (hV:mI nv V V1) (hG:gg ne G G1) (hs:ld P l.toArray ms c V1 A1 G1 0 l) (kV:cR V1 V2) (kG:aj G1 G2) (hk:∀a w,Inv c V2 [] G2 none_ a w->Q .normal a w) (hn:fL nv A1 ne=true:=by kernel_rfl) (hb:pc P c.N l ms V1 A1 G1=true:=by kernel_rfl) (hd:l.all ck=true:=by kernel_rfl):(Code.region id l.toArray true).ww ro ds P Q a w:=by
 unfold pc at hb
 simp only[Bool.and_eq_true,beq_iff_eq]at hb
 obtain⟨hm,hok,oy,hwf⟩:=hb
 exact vU ms hm hok oy hwf hd (dK h hV hG hn) hs λa w hI=>hk a w (eM hwf kV kG hI)
variable {y:Code}
theorem yb (h:Inv c V [] G none_ a w) (ms:List Nat) (nv:List Vr) (A1:List Al) (ne:List aI) (hV:mI nv V V1) (hG:gg ne G G1) (hs:ld P l.toArray ms c V1 A1 G1 0 l) (kV:cR V1 V2) (kG:aj G1 G2) (hk:∀a w,Inv c V2 [] G2 none_ a w->y.ww ro ds P Q a w) (hn:fL nv A1 ne=true:=by kernel_rfl) (hb:pc P c.N l ms V1 A1 G1=true:=by kernel_rfl) (hd:l.all ck=true:=by kernel_rfl):(Code.seq (Code.region id l.toArray true) y).ww ro ds P Q a w:=
 ai (Dp h ms nv A1 ne hV hG hs kV kG hk hn hb hd)
theorem EI (h:Inv c [] [] G none_ a w) (ms:List Nat) (ne:List aI) (hG:gg ne G G1) (hs:ld P l.toArray ms c [] [] G1 0 l) (kG:aj G1 G2) (hk:∀a w,Inv c [] [] G2 none_ a w->Q .normal a w) (hn:fL [] [] ne=true:=by kernel_rfl) (hb:pc P c.N l ms [] [] G1=true:=by kernel_rfl) (hd:l.all ck=true:=by kernel_rfl):(Code.region id l.toArray true).ww ro ds P Q a w:=Dp h ms [] [] ne .z hG hs .z kG hk hn hb hd
theorem Bl (h:Inv c [] [] G none_ a w) (ms:List Nat) (ne:List aI) (hG:gg ne G G1) (hs:ld P l.toArray ms c [] [] G1 0 l) (kG:aj G1 G2) (hk:∀a w,Inv c [] [] G2 none_ a w->y.ww ro ds P Q a w) (hn:fL [] [] ne=true:=by kernel_rfl) (hb:pc P c.N l ms [] [] G1=true:=by kernel_rfl) (hd:l.all ck=true:=by kernel_rfl):(Code.seq (Code.region id l.toArray true) y).ww ro ds P Q a w:=ai (EI h ms ne hG hs kG hk hn hb hd)
theorem yc (h:Inv c V [] G none_ a w) (n:Nat) (nv:List Vr) (A1:List Al) (ne:List aI) (hV:mI nv V V1) (hG:gg ne G G1) (hs:ld P l.toArray (tm n 0) c V1 A1 G1 0 l) (kV:cR V1 V2) (kG:aj G1 G2) (hk:∀a w,Inv c V2 [] G2 none_ a w->Q .normal a w) (hn:fL nv A1 ne=true:=by kernel_rfl) (hb:pe c.N l (tm n 0) V1 A1 G1=true:=by kernel_rfl) (hd:l.all ck=true:=by kernel_rfl):(Code.region id l.toArray false).ww ro ds P Q a w:=by
 unfold pe at hb
 simp only[Bool.and_eq_true,beq_iff_eq]at hb
 obtain⟨oy,hwf⟩:=hb
 exact yl hwf hd (dK h hV hG hn) (by rw[oy]; exact hs) λa w hI=>hk a w (eM hwf kV kG hI)
theorem cQ (h:Inv c V [] G none_ a w) (n:Nat) (nv:List Vr) (A1:List Al) (ne:List aI) (hV:mI nv V V1) (hG:gg ne G G1) (hs:ld P l.toArray (tm n 0) c V1 A1 G1 0 l) (kV:cR V1 V2) (kG:aj G1 G2) (hk:∀a w,Inv c V2 [] G2 none_ a w->y.ww ro ds P Q a w) (hn:fL nv A1 ne=true:=by kernel_rfl) (hb:pe c.N l (tm n 0) V1 A1 G1=true:=by kernel_rfl) (hd:l.all ck=true:=by kernel_rfl):(Code.seq (Code.region id l.toArray false) y).ww ro ds P Q a w:=
 ai (yc h n nv A1 ne hV hG hs kV kG hk hn hb hd)
theorem kZ (h:Inv c [] [] G none_ a w) (n:Nat) (ne:List aI) (hG:gg ne G G1) (hs:ld P l.toArray (tm n 0) c [] [] G1 0 l) (kG:aj G1 G2) (hk:∀a w,Inv c [] [] G2 none_ a w->Q .normal a w) (hn:fL [] [] ne=true:=by kernel_rfl) (hb:pe c.N l (tm n 0) [] [] G1=true:=by kernel_rfl) (hd:l.all ck=true:=by kernel_rfl):(Code.region id l.toArray false).ww ro ds P Q a w:=yc h n [] [] ne .z hG hs .z kG hk hn hb hd
theorem aq (h:Inv c [] [] G none_ a w) (n:Nat) (ne:List aI) (hG:gg ne G G1) (hs:ld P l.toArray (tm n 0) c [] [] G1 0 l) (kG:aj G1 G2) (hk:∀a w,Inv c [] [] G2 none_ a w->y.ww ro ds P Q a w) (hn:fL [] [] ne=true:=by kernel_rfl) (hb:pe c.N l (tm n 0) [] [] G1=true:=by kernel_rfl) (hd:l.all ck=true:=by kernel_rfl):(Code.seq (Code.region id l.toArray false) y).ww ro ds P Q a w:=ai (kZ h n ne hG hs kG hk hn hb hd)
variable {s:Nat}
theorem eH {v:Value} (hI:Inv c V [] G none_ a w) (hk:eO s G=some (aJ v)):a.eval (.tmp s)=v:=by
 obtain⟨k,h⟩:=iz hk
 exact hI.get k h
variable {b:Bool} {x:Code}
theorem xY (hI:Inv c V [] G none_ a w) (ht:b=true->x.ww ro ds P Q a w) (hf:b=false->y.ww ro ds P Q a w) (hk:eO s G=some (pB b):=by exact rfl):(Code.cond (.tmp s) x y).ww ro ds P Q a w:=jU (eH hI hk) ht hf
theorem jF {φ:Prop} [Decidable φ] {x y:Code} (hI:Inv c V [] G none_ a w) (ht:φ->x.ww ro ds P Q a w) (hf:¬φ->y.ww ro ds P Q a w) (hk:eO s G=some (pB (decide φ)):=by exact rfl):(Code.cond (.tmp s) x y).ww ro ds P Q a w:=jU (eH hI hk) (λh=>ht (of_decide_eq_true h)) λh=>hf (of_decide_eq_false h)
theorem EH (hI:Inv c V [] G none_ a w) (hb:b=true) (ht:x.ww ro ds P Q a w) (hk:eO s G=some (pB b):=by exact rfl):(Code.cond (.tmp s) x y).ww ro ds P Q a w:=jU (eH hI hk) (λ_=>ht) λh=>by rw[hb]at h; cases h
theorem mB (hI:Inv c V [] G none_ a w) (hb:b=false) (hf:y.ww ro ds P Q a w) (hk:eO s G=some (pB b):=by exact rfl):(Code.cond (.tmp s) x y).ww ro ds P Q a w:=jU (eH hI hk) (λh=>by rw[hb]at h; cases h) λ_=>hf
theorem tA {ι:Type} {C:Code} (VF:List Vr) (GF:List aI) (V1:ι->List Vr) (G1:ι->List aI) (φ:ι->Prop) (μ:ι->Nat) (k0:ι) (h0:φ k0) (hI:Inv c V [] G none_ a w) (hV:yn V (VF++V1 k0)) (hG:ym G (GF++G1 k0))
  (round:∀k a w,φ k->Inv c (VF++V1 k) [] (GF++G1 k) none_ a w->C.ww ro ds P (Exit.then (λa w=>∃k',(φ k'/\Inv c (VF++V1 k') [] (GF++G1 k') none_ a w)/\μ k'<μ k) Q) a w):(Code.loop C).ww ro ds P Q a w:=
 yf (λk a w=>φ k/\Inv c (VF++V1 k) [] (GF++G1 k) none_ a w) μ k0 ⟨h0,hI.cv hV hG⟩ λk a w h=>round k a w h.1 h.2
theorem yj (V':List Vr) (G':List aI) (_:Inv c V [] G none_ a w) (_:yn V V') (_:ym G G') (hx:x.ww ro ds P (Exit.then (Inv c V' [] G' none_) Q) a w) (hy:∀a w,Inv c V' [] G' none_ a w->y.ww ro ds P Q a w):(Code.seq x y).ww ro ds P Q a w:=
 ai (yg hx λe a w h=>by
  cases e with
  |normal=>exact hy a w h
  |_=>exact h)
variable {p q:Pred}
theorem cU (h:eO s G=some q:=by exact rfl) (hq:∀w v,q w v->p w v:=by exact wC):cu P V G (.tmp s) p:=rt hq h
theorem GR {x:Vr} {T:Nat} (h:pC s V=some x:=by exact rfl) (hs:x.slot=s:=by exact rfl) (hb:live none_ x=true:=by exact rfl) (bT:x.kd=.ptr:=by exact rfl) (hc:cont none_ x.c0 x.st=pv q:=by exact rfl) (hq:∀w v,q w v->p w v:=by exact wC) (ht:Bf P T x.agg x.n=true:=by kernel_rfl):cu P V G (.cell s T) p:=(dW h).1.elim λk hk=>.imp (.cell k hk hb bT hs (cH ht) hc) hq
end
section
variable {P:Program} {w:World} {fn:Func}{f:FuncId} {C:Code} {M:Nat->Nat->Prop} {p:Pred} {N:Nat}
theorem gq {vs:List Value} {G:List aI} (hf:P.funcs[f]?=some fn) (hb:fn.body=some C) (hN:fn.ntmps=N) (hlen:decide (vs.length<=N)=true) (hM:dm M w) (hG:eu M w vs G)
  (h:∀a,Inv ⟨N,w,M,λ_=>False⟩ [] [] G none_ a w->C.ww none [] P (bodyPost P fn (bX M p w)) a w):Calls P f vs.toArray w (bX M p w):=
 nX hf hb hN hlen hM hG λa hI=>(wpIn_wide (n:=0)).1 (wpIn_mono (h a hI 0) λe a' w' ⟨a0,e0,h0⟩=>by subst e0; exact h0)
theorem ye (hf:P.funcs[f]?=some fn) (hb:fn.body=some C) (hN:fn.ntmps=N) (hlen:decide (([]:List Value).length<=N)=true) (hM:dm M w) (h:∀a,Inv ⟨N,w,M,λ_=>False⟩ [] [] [] none_ a w->C.ww none [] P (bodyPost P fn (bX M p w)) a w):Calls P f #[] w (bX M p w):=
 gq (vs:=([]:List Value)) hf hb hN hlen hM (show eu M w ([]:List Value) []from trivial) h
variable {v0:Value} {p0:Pred}
theorem ie (hf:P.funcs[f]?=some fn) (hb:fn.body=some C) (hN:fn.ntmps=N) (hlen:decide ([v0].length<=N)=true) (hM:dm M w) (h0:aK M (λw=>p0 w v0) w) (h:∀a,Inv ⟨N,w,M,λ_=>False⟩ [] [] [Uz 0 p0] none_ a w->C.ww none [] P (bodyPost P fn (bX M p w)) a w):Calls P f #[v0] w (bX M p w):=
 gq (vs:=[v0]) hf hb hN hlen hM (show eu M w [v0] [Uz 0 p0]from⟨⟨rfl,_,rfl,h0⟩,trivial⟩) h
variable {v1:Value} {p1:Pred}
theorem iY (hf:P.funcs[f]?=some fn) (hb:fn.body=some C) (hN:fn.ntmps=N) (hlen:decide ([v0,v1].length<=N)=true) (hM:dm M w) (h0:aK M (λw=>p0 w v0) w) (h1:aK M (λw=>p1 w v1) w) (h:∀a,Inv ⟨N,w,M,λ_=>False⟩ [] [] [Uz 0 p0,Uz 1 p1] none_ a w->C.ww none [] P (bodyPost P fn (bX M p w)) a w):Calls P f #[v0,v1] w (bX M p w):=
 gq (vs:=[v0,v1]) hf hb hN hlen hM (show eu M w [v0,v1] [Uz 0 p0,Uz 1 p1]from⟨⟨rfl,_,rfl,h0⟩,⟨rfl,_,rfl,h1⟩,trivial⟩) h
variable {v2 v3 v4:Value} {p2 p3 p4:Pred}
theorem EJ (hf:P.funcs[f]?=some fn) (hb:fn.body=some C) (hN:fn.ntmps=N) (hlen:decide ([v0,v1,v2,v3,v4].length<=N)=true) (hM:dm M w) (h0:aK M (λw=>p0 w v0) w) (h1:aK M (λw=>p1 w v1) w) (h2:aK M (λw=>p2 w v2) w) (h3:aK M (λw=>p3 w v3) w) (h4:aK M (λw=>p4 w v4) w) (h:∀a,Inv ⟨N,w,M,λ_=>False⟩ [] [] [Uz 0 p0,Uz 1 p1,Uz 2 p2,Uz 3 p3,Uz 4 p4] none_ a w->C.ww none [] P (bodyPost P fn (bX M p w)) a w):Calls P f #[v0,v1,v2,v3,v4] w (bX M p w):=
 gq (vs:=[v0,v1,v2,v3,v4]) hf hb hN hlen hM (show eu M w [v0,v1,v2,v3,v4] [Uz 0 p0,Uz 1 p1,Uz 2 p2,Uz 3 p3,Uz 4 p4]from⟨⟨rfl,_,rfl,h0⟩,⟨rfl,_,rfl,h1⟩,⟨rfl,_,rfl,h2⟩,⟨rfl,_,rfl,h3⟩,⟨rfl,_,rfl,h4⟩,trivial⟩) h
theorem EK {v5:Value} {p5:Pred} (hf:P.funcs[f]?=some fn) (hb:fn.body=some C) (hN:fn.ntmps=N) (hlen:decide ([v0,v1,v2,v3,v4,v5].length<=N)=true) (hM:dm M w) (h0:aK M (λw=>p0 w v0) w) (h1:aK M (λw=>p1 w v1) w) (h2:aK M (λw=>p2 w v2) w) (h3:aK M (λw=>p3 w v3) w) (h4:aK M (λw=>p4 w v4) w) (h5:aK M (λw=>p5 w v5) w) (h:∀a,Inv ⟨N,w,M,λ_=>False⟩ [] [] [Uz 0 p0,Uz 1 p1,Uz 2 p2,Uz 3 p3,Uz 4 p4,Uz 5 p5] none_ a w->C.ww none [] P (bodyPost P fn (bX M p w)) a w):Calls P f #[v0,v1,v2,v3,v4,v5] w (bX M p w):=
 gq (vs:=[v0,v1,v2,v3,v4,v5]) hf hb hN hlen hM (show eu M w [v0,v1,v2,v3,v4,v5] [Uz 0 p0,Uz 1 p1,Uz 2 p2,Uz 3 p3,Uz 4 p4,Uz 5 p5]from⟨⟨rfl,_,rfl,h0⟩,⟨rfl,_,rfl,h1⟩,⟨rfl,_,rfl,h2⟩,⟨rfl,_,rfl,h3⟩,⟨rfl,_,rfl,h4⟩,⟨rfl,_,rfl,h5⟩,trivial⟩) h
end
abbrev K0 (P:Program) (f:FuncId) (p:Pred):Prop:=∀(M:Nat->Nat->Prop) (w:World),dm M w->Calls P f #[] w (bX M p w)
abbrev K1 (P:Program) (f:FuncId) (p0 p:Pred):Prop:=∀(M:Nat->Nat->Prop) (w:World) (v0:Value),dm M w->aK M (λw=>p0 w v0) w->Calls P f #[v0] w (bX M p w)
abbrev K2 (P:Program) (f:FuncId) (p0 p1 p:Pred):Prop:=∀(M:Nat->Nat->Prop) (w:World) (v0 v1:Value),dm M w->aK M (λw=>p0 w v0) w->aK M (λw=>p1 w v1) w->Calls P f #[v0,v1] w (bX M p w)
end Wx
