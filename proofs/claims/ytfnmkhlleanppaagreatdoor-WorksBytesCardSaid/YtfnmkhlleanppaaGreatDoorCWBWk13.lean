import Derived.Lib.Repeat
import Derived.Test.YtfnmkhlleanppaaGreatDoorJWB41
import Derived.Test.YtfnmkhlleanppaaGreatDoorJWB39
namespace Wx
set_option maxRecDepth 100000
set_option maxHeartbeats 1000000
open Go Go.RowKit Go.Proofs
set_option linter.unusedVariables false
attribute [local irreducible] OpOk
def Dl:Pred:=λ_ v=>∃s:ByteArray,(1<=s.size/\s.size<=8)/\v=.string s
variable {u:Int} {k:Nat}
theorem Cr (h:(0<=u/\u<16^k)/\1<=k/\k<=8) (hu:u>=16):((0<=u/16/\u/16<16^(k-1))/\1<=k-1/\k-1<=8)/\2<=k:=by
 have hk:2<=k:=by
  rcases Nat.lt_or_ge k 2 with h1|h1
  ·exfalso
   have:k=1:=by omega
   subst this
   have:=h.1.2
   omega
  ·exact h1
 obtain⟨j,rfl⟩:∃j,k=j+1:=⟨k-1,by omega⟩
 have h2:=h.1.2
 rw[Int.pow_succ]at h2
 rw[Nat.add_sub_cancel]
 exact⟨⟨⟨by omega,by omega⟩,by omega,by omega⟩,hk⟩
theorem Cs (h:(0<=u/\u<16^k)/\1<=k/\k<=8):u<4294967296:=by
 have h1:(16:Int)^k<=16^8:=by
  have:=Nat.pow_le_pow_right (n:=16) (by decide) h.2.2
  have e:∀j:Nat,((16:Int)^j)=((16^j:Nat):Int):=λj=>by rw[Int.natCast_pow]; rfl
  rw[e,e]
  exact Int.ofNat_le.2 this
 have:=h.1.2
 have e:(16:Int)^8=4294967296:=by decide
 omega
variable {m:Int}
theorem Ba {b:Nat} (hm:0<=m/\m<=64):∀w,(Instr.sliceAt 214 (.pointer (some ⟨b,0,none⟩)) (some (.int .i64 m)) none none).run Tryz.prog w=.ok (.slice (some ⟨b,m.toNat,none⟩) (65-m.toNat) (65-m.toNat)) w:=λw=>by
 have e1:(Instr.sliceBound (.int .i64 m) 65 .sliceB).run Tryz.prog w=.ok m.toNat w:=run_sliceBound w .i64 m 65 .sliceB hm.1 (by omega)
 have hne:¬65=m.toNat:=by omega
 have hu:Tryz.prog.underlying 214=some (.array 65 5):=by kernel_rfl
 have hsz:∀w,(Go.sizeOf 5).run Tryz.prog w=.ok 1 w:=λ_=>by kernel_rfl
 simp only[Instr.sliceAt,Sem.run_bind,run_underlying hu,Result.andThen_ok,Instr.slice,Instr.sliceBounds,Sem.run_pure]
 have e2:(Instr.sureAddr (.pointer (some ⟨b,0,none⟩))).run Tryz.prog w=.ok ⟨b,0,none⟩ w:=rfl
 simp only[Option.isSome_none,Bool.false_eq_true,if_false,e1,e2,Result.andThen_ok,hsz w,hne,Addr.add_mid,Nat.mul_one,Nat.zero_add]
variable {P:Program} {ops:Array Oper} {ms:List Nat} {c:bJ} {V:List Vr} {A:List Al} {G:List aI} {i d:Nat} {ty:TypeId} {pos:String} {au:Array Edge}
theorem qT {x:Operand} {S D:TypeId} (hr:∀w,(Go.convert S D (.int .i64 m)).run P w=.ok (.int .u64 m) w:=by exactλ_=>by kernel_rfl) (h:Has ms G i x (pI m):=by exact hs) (hp:Post G i (dP m):=by exact pt rfl):OpOk P ops ms c V A G i ⟨some d,.convert S D x,ty,pos,au,none⟩:=dU h hr hp
theorem Ct (h:1<=k/\k<=8):∀w v,(λ(_:World) v=>∃s:ByteArray,s.size=k/\v=.string s) w v->Dl w v:=λ_ _ ⟨s,e,e2⟩=>⟨s,by omega,e2⟩
abbrev J5 (P:Program) (f:FuncId) (p0 p1 p2 p3 p4 p:Pred):Prop:=∀(M:Nat->Nat->Prop) (w:World) (v0 v1 v2 v3 v4:Value),dm M w->aK M jG w->aK M (λw=>p0 w v0) w->aK M (λw=>p1 w v1) w->aK M (λw=>p2 w v2) w->aK M (λw=>p3 w v3) w->aK M (λw=>p4 w v4) w->Calls P f #[v0,v1,v2,v3,v4] w (bX M p w)
theorem FB {x0 x1 x2 x3 x4:Operand} (hG:aK (λk o=>c.M0 k o\/c.dx k) jG c.w0) {f:FuncId} {ts:Array TypeId} {p p0 p1 p2 p3 p4:Pred} {φ:Prop} (eZ:φ->J5 P f p0 p1 p2 p3 p4 p) (h0:Has ms G i x0 p0:=by exact hs) (h1:Has ms G i x1 p1:=by exact hs) (h2:Has ms G i x2 p2:=by exact hs) (h3:Has ms G i x3 p3:=by exact hs) (h4:Has ms G i x4 p4:=by exact hs) (hp:Post G i p:=by exact pt rfl) (hφ:φ:=by first|omega|trivial) (hf:aA P f:=by exactλ_ _=>by kernel_rfl):OpOk P ops ms c V A G i ⟨some d,.call ⟨.value (.func f),#[x0,x1,x2,x3,x4],ts⟩,ty,pos,au,none⟩:=
 eU hf hp λ_ _ a w hI hd=>(by
  rw[show(#[x0,x1,x2,x3,x4]:Array Operand).map a.eval=#[a.eval x0,a.eval x1,a.eval x2,a.eval x3,a.eval x4] by simp]
  exact eZ hφ _ w _ _ _ _ _ (aL hI) (kL hG hI) (h0.spec hI hd) (h1.spec hI hd) (h2.spec hI hd) (h3.spec hI hd) (h4.spec hI hd))
variable {n:Int}
theorem CE (hn:0<=n/\n<4294967296):J5 Tryz.prog 147 (aJ (.slice none 0 0)) (dP n) (pI 16) (pB false) (pB false) (dB (aJ (.slice none 0 0)) Dl):=by
 intro M w0 v0 v1 v2 v3 v4 hM hG hv0 dH hv2 hv3 hv4
 have hG:=eY hG
 refine EJ (N:=102) Tryz.func147 rfl rfl rfl hM hv0 dH hv2 hv3 hv4 λa hI=>?_
 refine aq hI 2 [Uc 0 10 _,Uc 1 11 _] (.ae (.k .z)) ⟨mv,mv,trivial⟩ (.ae (.aR .z)) λa w hI=>?_
 refine ai ?_
 refine aq hI 10 [Uc 0 19 _,Uc 1 20 _,Uc 2 21 _,Uc 3 22 _,Uc 4 23 _,Uc 5 24 _,Uc 6 25 _,Uc 7 26 _,Uc 8 27 _,Uc 9 28 _] (.ae (.aR .z)) ⟨mv,bn,mv,gd λh=>gr h,gd λh=>nJ h,pk,mv,gd λh=>gr h,gd λh=>nJ h,pk,trivial⟩ (.ae (.bC (.d8 (.k .z)))) λa w hI=>?_
 refine mB hI (rfl) ?_
 refine av ?_
 refine af ?_
 refine cQ hI 1 [⟨12,12,some 0,none,.ptr,214,65,true,pv _,[]⟩] [] [] .z (.k8 .z) ⟨Fu 65,trivial⟩ (.k .z) (.ae (.bC .z)) λa w hI=>?_
 obtain⟨g,hI⟩:=C3 hI 0 rfl
 dsimp only[List.set]at hI
 refine cQ hI 1 [] [] [Uc 0 13 _] (.k .z) (.k8 .z) ⟨mv,trivial⟩ (.k .z) (.k8 (.k .z)) λa w hI=>?_
 refine ai ?_
 refine cQ hI 1 [] [] [Uc 0 30 _] (.k .z) (.k8 (.k .z)) ⟨mv,trivial⟩ (.k .z) (.k8 (.kk .z)) λa w hI=>?_
 refine mB hI (rfl) ?_
 refine av ?_
 refine af ?_
 refine ai ?_
 refine cQ hI 2 [] [] [Uc 0 33 _,Uc 1 34 _] (.k .z) (.k8 (.kk .z)) ⟨mv,tB Ay (hφ:=trivial),trivial⟩ (.k .z) (.k8 (.jK .z)) λa w hI=>?_
 refine EH hI (rfl) ?_
 refine cQ hI 5 [] [] [Uc 0 35 _,Uc 1 36 _,Uc 2 37 _,Uc 3 38 _,Uc 4 14 _] (.k .z) (.k8 (.kk .z)) ⟨mv,qT,wv hG Eo (hφ:=trivial),qT,mv,trivial⟩ (.k .z) (.k8 (.fg (.fJ .z))) λa w hI=>?_
 refine cQ hI 3 [] [] [Uc 0 39 _,Uc 1 40 _,Uc 2 15 _] (.k .z) (.k8 (.kk .z)) ⟨mv,qT,mv,trivial⟩ (.k .z) (.k8 (.cj (.k .z))) λa w hI=>?_
 refine cQ hI 4 [] [] [Uc 0 41 _,Uc 1 42 _,Uc 2 43 _,Uc 3 16 _] (.k .z) (.k8 (.aR .z)) ⟨mv,qT,GD (m:=16) (n:=1) (r:=15) (by kernel_rfl),mv,trivial⟩ (.k .z) (.bC (.ae (.bC (.fJ .z)))) λa w hI=>?_
 refine ai ?_
 refine aN ?_
 refine tA [fu 12 g 65 _] [Uz 12 _,Uz 0 _,Uz 3 _,Uz 4 _,Uz 10 _,Uz 11 _,Uz 14 _,Uz 15 _,Uz 16 _] (λ(x:Int×Nat)=>[]) (λ(x:Int×Nat)=>[Uz 1 (dP (x).1),Uz 13 (pI (57+((x).2:Int)))]) (λ(x:Int×Nat)=>(0<=(x).1/\(x).1<16^(x).2)/\1<=(x).2/\(x).2<=8) (λ(x:Int×Nat)=>(x).1.toNat) ((n,8)) ⟨⟨hn.1,by show n<16^8; omega⟩,by omega,by omega⟩ hI ⟨vO,trivial⟩ ⟨gi,gi,gi,gi,gi,gi,gi,gi,gi,gc,gC (bV (by rfl)),trivial⟩ ?_
 intro x a w hx hI
 refine ai ?_
 refine cQ hI 3 [] [] [Uc 0 44 _,Uc 1 45 _,Uc 2 46 _] (.k .z) (.k8 (.aR .z)) ⟨mv,mv,bn,trivial⟩ (.k .z) (.k8 (.bC (.dk .z))) λa w hI=>?_
 refine jF hI (λt1=>?_) (λt1=>?_)
 ·
  refine av ?_
  refine af ?_
  refine aN ?_
  refine cQ hI 3 [] [] [Uc 0 47 _,Uc 1 48 _,Uc 2 13 _] (.k .z) (.k8 (.kk (.t 2 (.k .z)))) ⟨mv,bn,mv,trivial⟩ (.k .z) (.k8 (.cj (.fJ .z))) λa w hI=>?_
  have hlt:=Cs hx
  have hand:x.1.toNat &&& 15<=15:=Nat.and_le_right
  have hgo:=Cr hx (by assumption)
  refine cQ hI 7 [] [] [Uc 0 49 _,Uc 1 50 _,Uc 2 51 _,Uc 3 52 _,Uc 4 53 _,Uc 5 54 _] (.u none [(6,_)] .z) (.k8 (.aR .z)) ⟨mv,mv,mv,Fv (m:=x.1) ⟨hx.1.1,by omega⟩,E9 (m:=((x.1.toNat &&& 15:Nat):Int)) (hm:=⟨by omega,by show _<((36:Nat):Int); omega⟩),iE 65 1 (57+x.2-1),Fl 12 (n:=65),trivial⟩ (.s .o .z) (.k8 (.bC (.bR (.d .z)))) λa w hI=>?_
  refine yc hI 4 [] [] [Uc 0 55 _,Uc 1 56 _,Uc 2 57 _,Uc 3 1 _] (.k .z) (.k8 (.k (.t 3 (.k .z)))) ⟨mv,mv,GG,mv,trivial⟩ (.k .z) (.k8 (.sJ (.fJ .z))) λa w hI=>?_
  refine bG ?_
  refine af ?_
  exact ry ((x.1/16,x.2-1)) hgo.1 hI ⟨vO,trivial⟩ ⟨gc,gc,gc,gc,gc,gc,gc,gc,gc,gc,gC (bV (show 57+(x.2:Int)-1=57+((x.2-1:Nat):Int) by omega)),trivial⟩ (by show(x.1/16).toNat<x.1.toNat; omega)
 ·
  refine cV ?_
  refine aM ?_
  refine aM ?_
  refine bF ?_
  refine af ?_
  refine cQ hI 3 [] [] [Uc 0 58 _,Uc 1 59 _,Uc 2 13 _] (.k .z) (.k8 (.kk (.t 2 (.k .z)))) ⟨mv,bn,mv,trivial⟩ (.k .z) (.ae (.cj (.qb (.fJ .z)))) λa w hI=>?_
  refine yc hI 5 [] [] [Uc 0 60 _,Uc 1 61 _,Uc 2 62 _,Uc 3 63 _] (.u none [(4,_)] .z) (.k8 .z) ⟨mv,mv,E9 (m:=x.1) (hm:=⟨hx.1.1,by show _<((36:Nat):Int); omega⟩),iE 65 1 (57+x.2-1),Fl 12 (n:=65),trivial⟩ (.s .o .z) (.ae (.bM (.bR .z))) λa w hI=>?_
  refine af ?_
  refine ai ?_
  refine cQ hI 1 [] [] [Uc 0 89 _] (.k .z) (.ae (.aR .z)) ⟨mv,trivial⟩ (.k .z) (.bM (.ae .z)) λa w hI=>?_
  refine mB hI (rfl) ?_
  refine av ?_
  refine af ?_
  refine ai ?_
  refine cQ hI 1 [] [] [Uc 0 94 _] (.k .z) (.ae (.aR .z)) ⟨mv,trivial⟩ (.k .z) (.bM (.bM .z)) λa w hI=>?_
  refine mB hI (rfl) ?_
  refine av ?_
  refine af ?_
  refine cQ hI 4 [] [] [Uc 0 99 _,Uc 1 100 _,Uc 2 101 _,Uc 3 11 _] (.k .z) (.aR (.t 3 (.kk .z))) ⟨mv,GI (n:=65) (ht:=Ba (by omega)),FI 12 (n:=65),mv,trivial⟩ (.k .z) (.sk (.bR (.dk .z))) λa w hI=>?_
  refine ay ?_
  exact ki hI rfl cU (cU (hq:=Ct (by omega)))
theorem Ar (hn:0<=n/\n<4294967296):J2 Tryz.prog 110 (dP n) (pI 16) (Dl):=by
 intro M w0 v0 v1 hM hG hv0 dH
 have hG:=eY hG
 refine iY (N:=32) Tryz.func110 rfl rfl rfl hM hv0 dH λa hI=>?_
 refine aq hI 1 [Uc 0 4 _] (.kk .z) ⟨mv,trivial⟩ (.aR .z) λa w hI=>?_
 refine ai ?_
 refine aq hI 2 [Uc 0 9 _,Uc 1 10 _] (.aR .z) ⟨mv,bn,trivial⟩ (.bC (.k .z)) λa w hI=>?_
 refine mB hI (rfl) ?_
 refine av ?_
 refine af ?_
 refine aq hI 8 [Uc 0 26 _,Uc 1 27 _,Uc 2 28 _,Uc 3 25 _,Uc 4 29 _,Uc 5 30 _,Uc 6 7 _,Uc 7 8 _] (.ae .z) ⟨mv,mv,FB hG (CE (n:=n)) (hφ:=hn),mv,ext,ext,mv,mv,trivial⟩ (.sk (.bR (.cx .z))) λa w hI=>?_
 refine aq hI 2 [Uc 0 31 _,Uc 1 4 _] (.t 1 (.k .z)) ⟨mv,mv,trivial⟩ (.cx .z) λa w hI=>?_
 refine ay ?_
 exact cn hI rfl cU
theorem At (hn:0<=n/\n<4294967296):J2 Tryz.prog 73 (dP n) (pI 16) (Dl):=by
 intro M w0 v0 v1 hM hG hv0 dH
 have hG:=eY hG
 refine iY (N:=8) Tryz.func73 rfl rfl rfl hM hv0 dH λa hI=>?_
 refine aq hI 1 [Uc 0 4 _] (.kk .z) ⟨mv,trivial⟩ (.aR .z) λa w hI=>?_
 refine aq hI 4 [Uc 0 5 _,Uc 1 6 _,Uc 2 7 _,Uc 3 4 _] (.kk (.t 3 .z)) ⟨mv,mv,zE hG (Ar (n:=n)) (hφ:=hn),mv,trivial⟩ (.bR (.fJ .z)) λa w hI=>?_
 refine ay ?_
 exact cn hI rfl cU
theorem Bg (h:0<=m/\m<4294967296):∀w,(Go.convert 22 136 (.int .u32 m)).run Tryz.prog w=.ok (.int .u64 m) w:=λw=>by
 have hS:Tryz.prog.underlying 22=some (.int .u32):=by kernel_rfl
 have hD:Tryz.prog.underlying 136=some (.int .u64):=by kernel_rfl
 have hw:IntKind.u64.wrap m=m:=by rw[IntKind.wrap_u64]; omega
 show _=_
 simp only[Go.convert,Sem.run_bind,run_underlying hS,run_underlying hD,Result.andThen_ok]
 show Result.ok (Value.int .u64 (IntKind.u64.wrap m)) w=_
 rw[hw]
theorem rI (l:List UInt8):∀n:Nat,(Lib.repeatL l n).length=l.length*n
 |0=>rfl
 |n+1=>by unfold Lib.repeatL; rw[List.length_append,rI l n,Nat.mul_succ]; omega
theorem CG (h:k<=8):K2 Tryz.prog 74 (pT ⟨#[48]⟩) (pI (k:Int)) (rG k):=λM w v0 v1 hM h0 h1=>by
 obtain rfl:v0=.string ⟨#[48]⟩:=h0.out
 obtain rfl:v1=.int .i64 (k:Int):=h1.out
 refine(Tryz.strings_Repeat ⟨#[48]⟩ k w (by omega) (by show 1*k<=_; omega)).mono ?_
 rintro en w' ⟨rfl,hb⟩
 refine⟨_,rfl,λ_ _=>⟨_,rfl,?_⟩,hb⟩
 show(Lib.repeatL [48] k).toArray.size<=k
 rw[List.size_toArray,rI]
 show 1*k<=k
 omega
theorem Au (hm:0<=m/\m<4294967296):J1 Tryz.prog 41 (gD m) (rG 8):=by
 intro M w0 v0 hM hG hv0
 have hG:=eY hG
 refine ie (N:=13) Tryz.func41 rfl rfl rfl hM hv0 λa hI=>?_
 refine aq hI 1 [Uc 0 2 _] (.k .z) ⟨mv,trivial⟩ (.kk .z) λa w hI=>?_
 refine aq hI 4 [Uc 0 4 _,Uc 1 5 _,Uc 2 6 _,Uc 3 3 _] (.kk .z) ⟨mv,dU hs (Bg hm) (pt rfl),zE hG (At (n:=m)) (hφ:=hm),mv,trivial⟩ (.qb (.dk .z)) λa w hI=>?_
 obtain⟨s1,hs1,hI⟩:=CN 1 hI rfl
 refine aq hI 7 [Uc 0 7 _,Uc 1 8 _,Uc 2 9 _,Uc 3 10 _,Uc 4 11 _,Uc 5 12 _,Uc 6 2 _] (.k (.t 6 (.k .z))) ⟨mv,sN,bn,mN (CG (k:=8-s1.size)) (c2:=bV (show(8:Int)-(s1.size:Int)=((8-s1.size:Nat):Int) by omega)) (hφ:=by omega),mv,zo (8-s1.size) s1.size hs (λ_ _ h=>h) hs (mw (Nat.le_refl _)),mv,trivial⟩ (.d8 (.dk .z)) λa w hI=>?_
 refine ay ?_
 exact cn hI rfl (cU (hq:=zg (by omega)))
theorem CF (_:True):J1 Tryz.prog 41 AW (rG 8):=λM w v0 hM hG h0=>by
 obtain⟨m,hm,rfl⟩:=h0.out
 exact Au hm M w _ hM hG (λ_ _=>rfl)
theorem xV {h:Int} (h0:0<=h/\h<4294967296) (s:ByteArray):∀k,0<=gS h s k/\gS h s k<4294967296
 |0=>h0
 |k+1=>by
  show 0<=iT _ _/\iT _ _<4294967296
  unfold iT nE
  generalize 31*IntKind.u32.wrap (gS h s k+IntKind.u32.wrap (bO s k))=q
  rw[IntKind.wrap_u32 (IntKind.u32.wrap q+7)]
  omega
theorem Ap (hk:k<=1000000):K2 Tryz.prog 12 AW (rG k) AW:=λM w v0 v1 hM h0 h1=>by
 obtain⟨m,hm,rfl⟩:=h0.out
 obtain⟨s,rfl,hs⟩:=h1.out
 exact(oF (h:=m) (s:=s) (by omega) M w _ _ hM (λ_ _=>rfl) (λ_ _=>rfl)).mono λe w' ⟨v,e1,e2,e3⟩=>⟨v,e1,e2.imp λ_ e=>⟨_,xV hm s _,e⟩,e3⟩
end Wx
