import Derived.Lib.ConvBytes
import Derived.Laws.BytesString
import Derived.Laws.Strings
import Derived.Laws.Strings2
import Derived.Test.YtfnmkhlleanppaaGreatDoorCWFWalk
import Derived.Test.YtfnmkhlleanppaaGreatDoorJWF17
namespace Wx
open Go Go.RowKit Go.Proofs Go.Lib
def bE (s:ByteArray) (k:Nat):Int:=((s.data.toList.getD k 0).toNat:Int)
theorem jV (s:ByteArray) (k:Nat):0<=bE s k/\bE s k<=255:=by
 unfold bE
 have:=(s.data.toList.getD k 0).toNat_lt
 omega
abbrev pT (s:ByteArray):Pred:=aL (.string s)
abbrev fO (n:Int):Pred:=aL (.int .u8 n)
abbrev dn (n:Int):Pred:=aL (.int .u32 n)
abbrev fl (s:ByteArray):Pred:=az 1 false s.size λk=>fO (bE s k)
theorem dK {s:ByteArray} {k:Nat} (h:k<s.size):bE s k=((s[k]'h).toNat:Int):=by
 unfold bE
 have h':k<s.data.toList.length:=by rw[Array.length_toList]; exact h
 rw[List.getD_eq_getElem?_getD,List.getElem?_eq_getElem h',Option.getD_some,Array.getElem_toList]
 rfl
def isStr (P:Program) (T:TypeId):Bool:=match P.underlying T with
 |some .string=>true
 |_=>false
theorem gw {P:Program} {T:TypeId} (h:isStr P T=true):P.underlying T=some .string:=by
 unfold isStr at h
 split at h
 ·assumption
 ·cases h
section
variable {P:Program} {ops:Array Oper} {ms:List Nat} {c:bO} {V:List Vr} {A:List Al} {G:List aK} {i d:Nat} {x y z:Operand} {ty t u:TypeId} {pos:String} {ax:Array Edge} {s r:ByteArray} {m n:Int}{T:TypeId}
theorem oz (h:Has ms G i x (pT s):=by exact hs) (ht:isStr P T=true:=by kernel_rfl) (hp:Post G i (pI (s.size:Int)):=by exact pt rfl):OpOk P ops ms c V A G i ⟨some d,.call ⟨.builtin .len,#[x],#[T]⟩,ty,pos,ax,none⟩:=
 dY rfl rfl rfl rfl h hp λρ w h=>⟨.int .i64 (s.size:Int),by
  have e:ρ x=.string s:=h
  have hr:(Builtin.len_ #[T] ty #[ρ x]).run P w=.ok (.int .i64 (s.size:Int)) w:=by
   rw[e]
   unfold Builtin.len_
   simp[run_underlying (gw ht),goInt]
  show(do let d <-resolve ρ ⟨.builtin .len,#[x],#[T]⟩ ty; invoke d.target d.args).run P w=_
  simp only[resolve,invoke,pure_bind,builtin]
  rw[show(#[x]:Array Operand).map ρ=#[ρ x] by simp,Sem.run_bind,hr]
  rfl,λ_ _=>rfl⟩
theorem Bv (k:Nat) (h:Has ms G i x (pT s):=by exact hs) (hy:Has ms G i y (pI (k:Int)):=by exact(Wx.hs).imp (bM (by omega))) (hk:k<s.size:=by omega) (ht:isStr P T=true:=by kernel_rfl) (hp:Post G i (fO (bE s k)):=by exact pt rfl):OpOk P ops ms c V A G i ⟨some d,.index T x y,ty,pos,ax,none⟩:=
 eK rfl rfl rfl rfl h hy hp λρ w h hy=>⟨.int .u8 (bE s k),by
  have h:ρ x=.string s:=h
  have hy:ρ y=.int .i64 (k:Int):=hy
  show(do pure (Next.value (<-Instr.index T (ρ x) (ρ y)))).run P w=_
  rw[h,hy,Sem.run_bind,run_index_string w T s .i64 (k:Int) (gw ht),dif_pos ⟨by omega,by omega⟩,dK hk]
  rfl,λ_ _ _=>rfl⟩
theorem CU {lo hi:Option Value} {e:ByteArray} (w:World) (ht:isStr P T=true) (h:(Instr.slice T (.string s) lo hi none).run P w=.ok (.string e) w):(do pure (Next.value (<-Instr.sliceAt T (.string s) lo hi none))).run P w=.ok (.value (.string e)) w:=by
 rw[Sem.run_bind,run_sliceAt_string w T _ lo hi none (gw ht),h]
 rfl
theorem EC (j k:Nat) (h:Has ms G i x (pT s):=by exact hs) (hy:Has ms G i y (pI (j:Int)):=by exact(Wx.hs).imp (bM (by omega))) (hz:Has ms G i z (pI (k:Int)):=by exact(Wx.hs).imp (bM (by omega))) (hj:j<=k:=by omega) (hk:k<=s.size:=by omega) (ht:isStr P T=true:=by kernel_rfl) (hp:Post G i (pT (s.extract j k)):=by exact pt rfl):OpOk P ops ms c V A G i ⟨some d,.slice T x (some y) (some z) none,ty,pos,ax,none⟩:=
 bz rfl rfl rfl (.inl rfl) hp λL β a w hI hd=>by
  have e1:a.eval x=.string s:=(h.spec hI hd).out
  have e2:a.eval y=.int .i64 (j:Int):=(hy.spec hI hd).out
  have e3:a.eval z=.int .i64 (k:Int):=(hz.spec hI hd).out
  refine⟨.string (s.extract j k),w,?_,Below.refl _ _,λ_ _=>rfl⟩
  show(do pure (Next.value (<-Instr.sliceAt T (a.eval x) (some (a.eval y)) (some (a.eval z)) none))).run P w=_
  rw[e1,e2,e3]
  exact CU w ht (run_slice_string w T s .i64 .i64 (j:Int) (k:Int) (gw ht) (by omega) (by omega) (by omega))
def BK (P:Program) (S D:TypeId):Bool:=match P.underlying S,P.underlying D with
 |some .string,some (.slice E)=>match P.underlying E with
  |some (.int .u8)=>true
  |_=>false
 |_,_=>false
variable {S D:TypeId}
theorem pE (h:BK P S D=true):P.underlying S=some .string/\∃E,P.underlying D=some (.slice E)/\P.underlying E=some (.int .u8):=by
 unfold BK at h
 split at h
 ·rename_i E h1 h2
  split at h
  ·rename_i h3
   exact⟨h1,E,h2,h3⟩
  ·cases h
 ·cases h
theorem ET (h:Has ms G i x (pT s):=by exact hs) (ht:BK P S D=true:=by kernel_rfl) (hz:s.size<=1000000000:=by omega) (hp:Post G i (fl s):=by exact pt rfl):OpOk P ops ms c V A G i ⟨some d,.convert S D x,ty,pos,ax,none⟩:=
 bz rfl rfl rfl (.inl rfl) hp λL β a w hI hd=>by
  have e1:a.eval x=.string s:=(h.spec hI hd).out
  obtain⟨h1,E,h2,h3⟩:=pE ht
  have hb:Below w.heap.size w (bytesWorld w E s):=⟨rfl,rfl,rfl,by rw[bytesWorld_size]; omega,λk hk=>bytesWorld_at_old w E s k hk⟩
  have hcap:s.size<=grownCap w s.size 0 E/\grownCap w s.size 0 E<=maxLen:=by
   have key:∀t:Nat,s.size<=s.size+t%(2^63-s.size)/\s.size+t%(2^63-s.size)<=maxLen:=λt=>by
    have:=Nat.mod_lt t (show 0<2^63-s.size by omega)
    unfold maxLen
    omega
   exact key _
  refine⟨_,_,?_,hb,λw' he=>⟨some ⟨w.heap.size,0,none⟩,grownCap w s.size 0 E,rfl,hcap.1,hcap.2,λ_=>⟨w.heap.size,0,rfl,λk hk=>⟨[.int .u8 (bE s k)],rfl,λj u hu=>?_,rfl⟩⟩⟩⟩
  ·show(do pure (Next.value (<-Go.convert S D (a.eval x)))).run P w=_
   rw[e1,Sem.run_bind,Lib.run_convert_string_bytes w S D E s h1 h2 h3]
   rfl
  ·match j,hu with
   |0,hu=>
    injection hu with hu
    subst hu
    have hc:=bytesWorld_cell w E s k hk
    have hno:∀o,¬own c V L β w.heap.size o:=λo ho=>by have:=gV hI ho; omega
    have:=he.cell w.heap.size k _ (hno k) hc
    rw[show 0+k*1+0=k by omega]
    exact this
end
end Wx

namespace Wx
open Go Go.RowKit
section
variable {ro:Option Nat} {ds:List Deferred} {P:Program} {Q:Exit->Act->World->Prop} {c:bO} {V:List Vr} {G:List aK} {a:Act} {w:World} {fn:Func}{id:Nat} {l:List Oper} {V1 V2:List Vr} {G1 G2:List aK}
theorem Dk (h:Inv c V [] G none_ a w) (ms:List Nat) (nv:List Vr) (A1:List Al) (ne:List aK) (hV:mC nv V V1) (hG:fY ne G G1) (hs:kS P l.toArray ms c V1 A1 G1 0 l) (kV:cQ V1 V2) (kG:aj G1 G2) (hk:∀a w,Inv c V2 [] G2 none_ a w->Q .normal a w) (hn:fJ nv A1 ne=true:=by kernel_rfl) (hb:oP P c.N l ms V1 A1 G1=true:=by kernel_rfl) (hd:l.all ct=true:=by kernel_rfl):(Code.region id l.toArray true).ww ro ds P Q a w:=by
 unfold oP at hb
 simp only[Bool.and_eq_true,beq_iff_eq]at hb
 obtain⟨hm,hok,od,hwf⟩:=hb
 exact vN ms hm hok od hwf hd (dA h hV hG hn) hs λa w hI=>hk a w (eC hwf kV kG hI)
variable {y:Code}
theorem vV (h:Inv c V [] G none_ a w) (ms:List Nat) (nv:List Vr) (A1:List Al) (ne:List aK) (hV:mC nv V V1) (hG:fY ne G G1) (hs:kS P l.toArray ms c V1 A1 G1 0 l) (kV:cQ V1 V2) (kG:aj G1 G2) (hk:∀a w,Inv c V2 [] G2 none_ a w->y.ww ro ds P Q a w) (hn:fJ nv A1 ne=true:=by kernel_rfl) (hb:oP P c.N l ms V1 A1 G1=true:=by kernel_rfl) (hd:l.all ct=true:=by kernel_rfl):(Code.seq (Code.region id l.toArray true) y).ww ro ds P Q a w:=
 ah (Dk h ms nv A1 ne hV hG hs kV kG hk hn hb hd)
theorem EJ (h:Inv c [] [] G none_ a w) (ms:List Nat) (ne:List aK) (hG:fY ne G G1) (hs:kS P l.toArray ms c [] [] G1 0 l) (kG:aj G1 G2) (hk:∀a w,Inv c [] [] G2 none_ a w->Q .normal a w) (hn:fJ [] [] ne=true:=by kernel_rfl) (hb:oP P c.N l ms [] [] G1=true:=by kernel_rfl) (hd:l.all ct=true:=by kernel_rfl):(Code.region id l.toArray true).ww ro ds P Q a w:=Dk h ms [] [] ne .z hG hs .z kG hk hn hb hd
theorem CY (h:Inv c [] [] G none_ a w) (ms:List Nat) (ne:List aK) (hG:fY ne G G1) (hs:kS P l.toArray ms c [] [] G1 0 l) (kG:aj G1 G2) (hk:∀a w,Inv c [] [] G2 none_ a w->y.ww ro ds P Q a w) (hn:fJ [] [] ne=true:=by kernel_rfl) (hb:oP P c.N l ms [] [] G1=true:=by kernel_rfl) (hd:l.all ct=true:=by kernel_rfl):(Code.seq (Code.region id l.toArray true) y).ww ro ds P Q a w:=ah (EJ h ms ne hG hs kG hk hn hb hd)
theorem tv (h:Inv c V [] G none_ a w) (n:Nat) (nv:List Vr) (A1:List Al) (ne:List aK) (hV:mC nv V V1) (hG:fY ne G G1) (hs:kS P l.toArray (tm n 0) c V1 A1 G1 0 l) (kV:cQ V1 V2) (kG:aj G1 G2) (hk:∀a w,Inv c V2 [] G2 none_ a w->Q .normal a w) (hn:fJ nv A1 ne=true:=by kernel_rfl) (hb:oQ c.N l (tm n 0) V1 A1 G1=true:=by kernel_rfl) (hd:l.all ct=true:=by kernel_rfl):(Code.region id l.toArray false).ww ro ds P Q a w:=by
 unfold oQ at hb
 simp only[Bool.and_eq_true,beq_iff_eq]at hb
 obtain⟨od,hwf⟩:=hb
 exact yc hwf hd (dA h hV hG hn) (by rw[od]; exact hs) λa w hI=>hk a w (eC hwf kV kG hI)
theorem cD (h:Inv c V [] G none_ a w) (n:Nat) (nv:List Vr) (A1:List Al) (ne:List aK) (hV:mC nv V V1) (hG:fY ne G G1) (hs:kS P l.toArray (tm n 0) c V1 A1 G1 0 l) (kV:cQ V1 V2) (kG:aj G1 G2) (hk:∀a w,Inv c V2 [] G2 none_ a w->y.ww ro ds P Q a w) (hn:fJ nv A1 ne=true:=by kernel_rfl) (hb:oQ c.N l (tm n 0) V1 A1 G1=true:=by kernel_rfl) (hd:l.all ct=true:=by kernel_rfl):(Code.seq (Code.region id l.toArray false) y).ww ro ds P Q a w:=
 ah (tv h n nv A1 ne hV hG hs kV kG hk hn hb hd)
theorem jD (h:Inv c [] [] G none_ a w) (n:Nat) (ne:List aK) (hG:fY ne G G1) (hs:kS P l.toArray (tm n 0) c [] [] G1 0 l) (kG:aj G1 G2) (hk:∀a w,Inv c [] [] G2 none_ a w->Q .normal a w) (hn:fJ [] [] ne=true:=by kernel_rfl) (hb:oQ c.N l (tm n 0) [] [] G1=true:=by kernel_rfl) (hd:l.all ct=true:=by kernel_rfl):(Code.region id l.toArray false).ww ro ds P Q a w:=tv h n [] [] ne .z hG hs .z kG hk hn hb hd
theorem au (h:Inv c [] [] G none_ a w) (n:Nat) (ne:List aK) (hG:fY ne G G1) (hs:kS P l.toArray (tm n 0) c [] [] G1 0 l) (kG:aj G1 G2) (hk:∀a w,Inv c [] [] G2 none_ a w->y.ww ro ds P Q a w) (hn:fJ [] [] ne=true:=by kernel_rfl) (hb:oQ c.N l (tm n 0) [] [] G1=true:=by kernel_rfl) (hd:l.all ct=true:=by kernel_rfl):(Code.seq (Code.region id l.toArray false) y).ww ro ds P Q a w:=ah (jD h n ne hG hs kG hk hn hb hd)
variable {s:Nat}
theorem ek {v:Value} (hI:Inv c V [] G none_ a w) (hk:eE s G=some (aL v)):a.eval (.tmp s)=v:=by
 obtain⟨k,h⟩:=iy hk
 exact hI.get k h
variable {b:Bool} {x:Code}
theorem tu (hI:Inv c V [] G none_ a w) (ht:b=true->x.ww ro ds P Q a w) (hf:b=false->y.ww ro ds P Q a w) (hk:eE s G=some (pB b):=by exact rfl):(Code.cond (.tmp s) x y).ww ro ds P Q a w:=jQ (ek hI hk) ht hf
theorem jy {φ:Prop} [Decidable φ] {x y:Code} (hI:Inv c V [] G none_ a w) (ht:φ->x.ww ro ds P Q a w) (hf:¬φ->y.ww ro ds P Q a w) (hk:eE s G=some (pB (decide φ)):=by exact rfl):(Code.cond (.tmp s) x y).ww ro ds P Q a w:=jQ (ek hI hk) (λh=>ht (of_decide_eq_true h)) λh=>hf (of_decide_eq_false h)
theorem EI (hI:Inv c V [] G none_ a w) (hb:b=true) (ht:x.ww ro ds P Q a w) (hk:eE s G=some (pB b):=by exact rfl):(Code.cond (.tmp s) x y).ww ro ds P Q a w:=jQ (ek hI hk) (λ_=>ht) λh=>by rw[hb]at h; cases h
theorem nx (hI:Inv c V [] G none_ a w) (hb:b=false) (hf:y.ww ro ds P Q a w) (hk:eE s G=some (pB b):=by exact rfl):(Code.cond (.tmp s) x y).ww ro ds P Q a w:=jQ (ek hI hk) (λh=>by rw[hb]at h; cases h) λ_=>hf
theorem qF {ι:Type} {C:Code} (VF:List Vr) (GF:List aK) (V1:ι->List Vr) (G1:ι->List aK) (φ:ι->Prop) (μ:ι->Nat) (k0:ι) (h0:φ k0) (hI:Inv c V [] G none_ a w) (hV:zk V (VF++V1 k0)) (hG:zj G (GF++G1 k0))
  (round:∀k a w,φ k->Inv c (VF++V1 k) [] (GF++G1 k) none_ a w->C.ww ro ds P (Exit.then (λa w=>∃k',(φ k'/\Inv c (VF++V1 k') [] (GF++G1 k') none_ a w)/\μ k'<μ k) Q) a w):(Code.loop C).ww ro ds P Q a w:=
 ya (λk a w=>φ k/\Inv c (VF++V1 k) [] (GF++G1 k) none_ a w) μ k0 ⟨h0,hI.cv hV hG⟩ λk a w h=>round k a w h.1 h.2
variable {p q:Pred}
theorem cC (h:eE s G=some q:=by exact rfl) (hq:∀w v,q w v->p w v:=by exact wv):cy P V G (.tmp s) p:=rt hq h
theorem GC {x:Vr} {T:Nat} (h:pz s V=some x:=by exact rfl) (hs:x.slot=s:=by exact rfl) (hb:live none_ x=true:=by exact rfl) (cn:x.kd=.ptr:=by exact rfl) (hc:cont none_ x.c0 x.st=pv q:=by exact rfl) (hq:∀w v,q w v->p w v:=by exact wv) (ht:Bc P T x.agg x.n=true:=by kernel_rfl):cy P V G (.cell s T) p:=(ei h).1.elim λk hk=>.imp (.cell k hk hb cn hs (cP ht) hc) hq
end
section
variable {P:Program} {w:World} {fn:Func}{f:FuncId} {C:Code} {M:Nat->Nat->Prop} {p:Pred} {N:Nat}
theorem gj {vs:List Value} {G:List aK} (hf:P.funcs[f]?=some fn) (hb:fn.body=some C) (hN:fn.ntmps=N) (hlen:decide (vs.length<=N)=true) (hM:da M w) (hG:dV M w vs G)
  (h:∀a,Inv ⟨N,w,M,λ_=>False⟩ [] [] G none_ a w->C.ww none [] P (bodyPost P fn (bX M p w)) a w):Calls P f vs.toArray w (bX M p w):=
 nL hf hb hN hlen hM hG λa hI=>(wpIn_wide (n:=0)).1 (wpIn_mono (h a hI 0) λe a' w' ⟨a0,e0,h0⟩=>by subst e0; exact h0)
theorem xZ (hf:P.funcs[f]?=some fn) (hb:fn.body=some C) (hN:fn.ntmps=N) (hlen:decide (([]:List Value).length<=N)=true) (hM:da M w) (h:∀a,Inv ⟨N,w,M,λ_=>False⟩ [] [] [] none_ a w->C.ww none [] P (bodyPost P fn (bX M p w)) a w):Calls P f #[] w (bX M p w):=
 gj (vs:=([]:List Value)) hf hb hN hlen hM (show dV M w ([]:List Value) []from trivial) h
variable {v0:Value} {p0:Pred}
theorem gE (hf:P.funcs[f]?=some fn) (hb:fn.body=some C) (hN:fn.ntmps=N) (hlen:decide ([v0].length<=N)=true) (hM:da M w) (h0:aN M (λw=>p0 w v0) w) (h:∀a,Inv ⟨N,w,M,λ_=>False⟩ [] [] [Uz 0 p0] none_ a w->C.ww none [] P (bodyPost P fn (bX M p w)) a w):Calls P f #[v0] w (bX M p w):=
 gj (vs:=[v0]) hf hb hN hlen hM (show dV M w [v0] [Uz 0 p0]from⟨⟨rfl,_,rfl,h0⟩,trivial⟩) h
variable {v1:Value} {p1:Pred}
theorem ia (hf:P.funcs[f]?=some fn) (hb:fn.body=some C) (hN:fn.ntmps=N) (hlen:decide ([v0,v1].length<=N)=true) (hM:da M w) (h0:aN M (λw=>p0 w v0) w) (h1:aN M (λw=>p1 w v1) w) (h:∀a,Inv ⟨N,w,M,λ_=>False⟩ [] [] [Uz 0 p0,Uz 1 p1] none_ a w->C.ww none [] P (bodyPost P fn (bX M p w)) a w):Calls P f #[v0,v1] w (bX M p w):=
 gj (vs:=[v0,v1]) hf hb hN hlen hM (show dV M w [v0,v1] [Uz 0 p0,Uz 1 p1]from⟨⟨rfl,_,rfl,h0⟩,⟨rfl,_,rfl,h1⟩,trivial⟩) h
variable {v2:Value} {p2:Pred}
theorem EK (hf:P.funcs[f]?=some fn) (hb:fn.body=some C) (hN:fn.ntmps=N) (hlen:decide ([v0,v1,v2].length<=N)=true) (hM:da M w) (h0:aN M (λw=>p0 w v0) w) (h1:aN M (λw=>p1 w v1) w) (h2:aN M (λw=>p2 w v2) w) (h:∀a,Inv ⟨N,w,M,λ_=>False⟩ [] [] [Uz 0 p0,Uz 1 p1,Uz 2 p2] none_ a w->C.ww none [] P (bodyPost P fn (bX M p w)) a w):Calls P f #[v0,v1,v2] w (bX M p w):=
 gj (vs:=[v0,v1,v2]) hf hb hN hlen hM (show dV M w [v0,v1,v2] [Uz 0 p0,Uz 1 p1,Uz 2 p2]from⟨⟨rfl,_,rfl,h0⟩,⟨rfl,_,rfl,h1⟩,⟨rfl,_,rfl,h2⟩,trivial⟩) h
theorem EL {v3 v4:Value} {p3 p4:Pred} (hf:P.funcs[f]?=some fn) (hb:fn.body=some C) (hN:fn.ntmps=N) (hlen:decide ([v0,v1,v2,v3,v4].length<=N)=true) (hM:da M w) (h0:aN M (λw=>p0 w v0) w) (h1:aN M (λw=>p1 w v1) w) (h2:aN M (λw=>p2 w v2) w) (h3:aN M (λw=>p3 w v3) w) (h4:aN M (λw=>p4 w v4) w) (h:∀a,Inv ⟨N,w,M,λ_=>False⟩ [] [] [Uz 0 p0,Uz 1 p1,Uz 2 p2,Uz 3 p3,Uz 4 p4] none_ a w->C.ww none [] P (bodyPost P fn (bX M p w)) a w):Calls P f #[v0,v1,v2,v3,v4] w (bX M p w):=
 gj (vs:=[v0,v1,v2,v3,v4]) hf hb hN hlen hM (show dV M w [v0,v1,v2,v3,v4] [Uz 0 p0,Uz 1 p1,Uz 2 p2,Uz 3 p3,Uz 4 p4]from⟨⟨rfl,_,rfl,h0⟩,⟨rfl,_,rfl,h1⟩,⟨rfl,_,rfl,h2⟩,⟨rfl,_,rfl,h3⟩,⟨rfl,_,rfl,h4⟩,trivial⟩) h
end
abbrev K0 (P:Program) (f:FuncId) (p:Pred):Prop:=∀(M:Nat->Nat->Prop) (w:World),da M w->Calls P f #[] w (bX M p w)
abbrev K1 (P:Program) (f:FuncId) (p0 p:Pred):Prop:=∀(M:Nat->Nat->Prop) (w:World) (v0:Value),da M w->aN M (λw=>p0 w v0) w->Calls P f #[v0] w (bX M p w)
abbrev K2 (P:Program) (f:FuncId) (p0 p1 p:Pred):Prop:=∀(M:Nat->Nat->Prop) (w:World) (v0 v1:Value),da M w->aN M (λw=>p0 w v0) w->aN M (λw=>p1 w v1) w->Calls P f #[v0,v1] w (bX M p w)
end Wx
