import Derived.Lib.Repeat
import Derived.Test.YtfnmkhlleanppaaGreatDoorJWC36
namespace Wx
set_option maxRecDepth 100000
set_option maxHeartbeats 1000000
open Go Go.RowKit Go.Proofs
set_option linter.unusedVariables false
attribute [local irreducible] OpOk
def I1:Pred:=λ_ v=>∃s:ByteArray,(1<=s.size/\s.size<=8)/\v=.string s
variable {u:Int} {k:Nat}
theorem Hs (h:(0<=u/\u<16^k)/\1<=k/\k<=8) (hu:u>=16):((0<=u/16/\u/16<16^(k-1))/\1<=k-1/\k-1<=8)/\2<=k:=by
 have hk:2<=k:=by
  rcases Nat.lt_or_ge k 2 with h1|h1
  ·exfalso
   have:k=1:=by omega
   subst this
   have:=h.1.2
   omega
  ·exact h1
 obtain⟨j,rfl⟩:∃j,k=j+1:=⟨k-1,by omega⟩
 have h2:=h.1.2
 rw[Int.pow_succ]at h2
 rw[Nat.add_sub_cancel]
 exact⟨⟨⟨by omega,by omega⟩,by omega,by omega⟩,hk⟩
theorem Ht (h:(0<=u/\u<16^k)/\1<=k/\k<=8):u<4294967296:=by
 have h1:(16:Int)^k<=16^8:=by
  have:=Nat.pow_le_pow_right (n:=16) (by decide) h.2.2
  have e:∀j:Nat,((16:Int)^j)=((16^j:Nat):Int):=λj=>by rw[Int.natCast_pow]; rfl
  rw[e,e]
  exact Int.ofNat_le.2 this
 have:=h.1.2
 have e:(16:Int)^8=4294967296:=by decide
 omega
variable {m:Int}
theorem zQ {b:Nat} (hm:0<=m/\m<=64):∀w,(Instr.sliceAt 214 (.pointer (some ⟨b,0,none⟩)) (some (.int .i64 m)) none none).run Tryz.prog w=.ok (.slice (some ⟨b,m.toNat,none⟩) (65-m.toNat) (65-m.toNat)) w:=λw=>by
 have e1:(Instr.sliceBound (.int .i64 m) 65 .sliceB).run Tryz.prog w=.ok m.toNat w:=run_sliceBound w .i64 m 65 .sliceB hm.1 (by omega)
 have hne:¬65=m.toNat:=by omega
 have hu:Tryz.prog.underlying 214=some (.array 65 5):=by kernel_rfl
 have hsz:∀w,(Go.sizeOf 5).run Tryz.prog w=.ok 1 w:=λ_=>by kernel_rfl
 simp only[Instr.sliceAt,Sem.run_bind,run_underlying hu,Result.andThen_ok,Instr.slice,Instr.sliceBounds,Sem.run_pure]
 have e2:(Instr.sureAddr (.pointer (some ⟨b,0,none⟩))).run Tryz.prog w=.ok ⟨b,0,none⟩ w:=rfl
 simp only[Option.isSome_none,Bool.false_eq_true,if_false,e1,e2,Result.andThen_ok,hsz w,hne,Addr.add_mid,Nat.mul_one,Nat.zero_add]
variable {P:Program} {ops:Array Oper} {ms:List Nat} {c:bQ} {V:List Vr} {A:List Al} {G:List aN} {i d:Nat} {ty:TypeId} {pos:String} {aft:Array Edge}
theorem lg {x:Operand} {S D:TypeId} (hr:∀w,(Go.convert S D (.int .i64 m)).run P w=.ok (.int .u64 m) w:=by exactλ_=>by kernel_rfl) (h:Has ms G i x (pI m):=by exact hs) (hp:Post G i (dn m):=by exact pt rfl):OpOk P ops ms c V A G i ⟨some d,.convert S D x,ty,pos,aft,none⟩:=fY h hr hp
theorem Hu (h:1<=k/\k<=8):∀w v,(λ(_:World) v=>∃s:ByteArray,s.size=k/\v=.string s) w v->I1 w v:=λ_ _ ⟨s,e,e2⟩=>⟨s,by omega,e2⟩
abbrev J5 (P:Program) (f:FuncId) (p0 p1 p2 p3 p4 p:Pred):Prop:=∀(M:Nat->Nat->Prop) (w:World) (v0 v1 v2 v3 v4:Value),cS M w->aJ M jd w->aJ M (λw=>p0 w v0) w->aJ M (λw=>p1 w v1) w->aJ M (λw=>p2 w v2) w->aJ M (λw=>p3 w v3) w->aJ M (λw=>p4 w v4) w->Calls P f #[v0,v1,v2,v3,v4] w (cI M p w)
theorem KT {x0 x1 x2 x3 x4:Operand} (hG:aJ (λk o=>c.M0 k o\/c.dc k) jd c.w0) {f:FuncId} {ts:Array TypeId} {p p0 p1 p2 p3 p4:Pred} {φ:Prop} (gj:φ->J5 P f p0 p1 p2 p3 p4 p) (h0:Has ms G i x0 p0:=by exact hs) (h1:Has ms G i x1 p1:=by exact hs) (h2:Has ms G i x2 p2:=by exact hs) (h3:Has ms G i x3 p3:=by exact hs) (h4:Has ms G i x4 p4:=by exact hs) (hp:Post G i p:=by exact pt rfl) (hφ:φ:=by first|omega|trivial) (hf:aK P f:=by exactλ_ _=>by kernel_rfl):OpOk P ops ms c V A G i ⟨some d,.call ⟨.value (.func f),#[x0,x1,x2,x3,x4],ts⟩,ty,pos,aft,none⟩:=
 fX hf hp λ_ _ a w hI hd=>(by
  rw[show(#[x0,x1,x2,x3,x4]:Array Operand).map a.eval=#[a.eval x0,a.eval x1,a.eval x2,a.eval x3,a.eval x4] by simp]
  exact gj hφ _ w _ _ _ _ _ (aF hI) (ki hG hI) (h0.spec hI hd) (h1.spec hI hd) (h2.spec hI hd) (h3.spec hI hd) (h4.spec hI hd))
variable {n:Int}
theorem HE (hn:0<=n/\n<4294967296):J5 Tryz.prog 147 (aG (.slice none 0 0)) (dn n) (pI 16) (pB false) (pB false) (dF (aG (.slice none 0 0)) I1):=by
 intro M w0 v0 v1 v2 v3 v4 hM hG hv0 da hv2 hv3 hv4
 have hG:=dP hG
 refine Iv (N:=102) Tryz.func147 rfl rfl rfl hM hv0 da hv2 hv3 hv4 λa hI=>?_
 refine au hI 2 [Uc 0 10 _,Uc 1 11 _] (.af (.k .z)) ⟨mv,mv,trivial⟩ (.af (.aU .z)) λa w hI=>?_
 refine ah ?_
 refine au hI 10 [Uc 0 19 _,Uc 1 20 _,Uc 2 21 _,Uc 3 22 _,Uc 4 23 _,Uc 5 24 _,Uc 6 25 _,Uc 7 26 _,Uc 8 27 _,Uc 9 28 _] (.af (.aU .z)) ⟨mv,bn,mv,gd λh=>cy h,gd λh=>fS h,pk,mv,gd λh=>cy h,gd λh=>fS h,pk,trivial⟩ (.af (.bj (.d8 (.k .z)))) λa w hI=>?_
 refine mb hI (rfl) ?_
 refine ak ?_
 refine ae ?_
 refine bO hI 1 [⟨12,12,some 0,none,.ptr,214,65,true,pv _,[]⟩] [] [] .z (.k8 .z) ⟨LK 65,trivial⟩ (.k .z) (.af (.bj .z)) λa w hI=>?_
 obtain⟨g,hI⟩:=vg hI 0 rfl
 dsimp only[List.set]at hI
 refine bO hI 1 [] [] [Uc 0 13 _] (.k .z) (.k8 .z) ⟨mv,trivial⟩ (.k .z) (.k8 (.k .z)) λa w hI=>?_
 refine ah ?_
 refine bO hI 1 [] [] [Uc 0 30 _] (.k .z) (.k8 (.k .z)) ⟨mv,trivial⟩ (.k .z) (.k8 (.kk .z)) λa w hI=>?_
 refine mb hI (rfl) ?_
 refine ak ?_
 refine ae ?_
 refine ah ?_
 refine bO hI 2 [] [] [Uc 0 33 _,Uc 1 34 _] (.k .z) (.k8 (.kk .z)) ⟨mv,nH yH (hφ:=trivial),trivial⟩ (.k .z) (.k8 (.gS .z)) λa w hI=>?_
 refine Ir hI (rfl) ?_
 refine bO hI 5 [] [] [Uc 0 35 _,Uc 1 36 _,Uc 2 37 _,Uc 3 38 _,Uc 4 14 _] (.k .z) (.k8 (.kk .z)) ⟨mv,lg,Ai hG HH (hφ:=trivial),lg,mv,trivial⟩ (.k .z) (.k8 (.gE (.eC .z))) λa w hI=>?_
 refine bO hI 3 [] [] [Uc 0 39 _,Uc 1 40 _,Uc 2 15 _] (.k .z) (.k8 (.kk .z)) ⟨mv,lg,mv,trivial⟩ (.k .z) (.k8 (.bK (.k .z))) λa w hI=>?_
 refine bO hI 4 [] [] [Uc 0 41 _,Uc 1 42 _,Uc 2 43 _,Uc 3 16 _] (.k .z) (.k8 (.aU .z)) ⟨mv,lg,Lz (m:=16) (n:=1) (r:=15) (by kernel_rfl),mv,trivial⟩ (.k .z) (.bj (.af (.bj (.eC .z)))) λa w hI=>?_
 refine ah ?_
 refine aD ?_
 refine qz [fk 12 g 65 _] [Uz 12 _,Uz 0 _,Uz 3 _,Uz 4 _,Uz 10 _,Uz 11 _,Uz 14 _,Uz 15 _,Uz 16 _] (λ(x:Int×Nat)=>[]) (λ(x:Int×Nat)=>[Uz 1 (dn (x).1),Uz 13 (pI (57+((x).2:Int)))]) (λ(x:Int×Nat)=>(0<=(x).1/\(x).1<16^(x).2)/\1<=(x).2/\(x).2<=8) (λ(x:Int×Nat)=>(x).1.toNat) ((n,8)) ⟨⟨hn.1,by show n<16^8; omega⟩,by omega,by omega⟩ hI ⟨vO,trivial⟩ ⟨gi,gi,gi,gi,gi,gi,gi,gi,gi,gc,gC (bh (by rfl)),trivial⟩ ?_
 intro x a w hx hI
 refine ah ?_
 refine bO hI 3 [] [] [Uc 0 44 _,Uc 1 45 _,Uc 2 46 _] (.k .z) (.k8 (.aU .z)) ⟨mv,mv,bn,trivial⟩ (.k .z) (.k8 (.bj (.dk .z))) λa w hI=>?_
 refine jv hI (λt1=>?_) (λt1=>?_)
 ·
  refine ak ?_
  refine ae ?_
  refine aD ?_
  refine bO hI 3 [] [] [Uc 0 47 _,Uc 1 48 _,Uc 2 13 _] (.k .z) (.k8 (.kk (.t 2 (.k .z)))) ⟨mv,bn,mv,trivial⟩ (.k .z) (.k8 (.bK (.eC .z))) λa w hI=>?_
  have hlt:=Ht hx
  have hand:x.1.toNat &&& 15<=15:=Nat.and_le_right
  have hgo:=Hs hx (by assumption)
  refine bO hI 7 [] [] [Uc 0 49 _,Uc 1 50 _,Uc 2 51 _,Uc 3 52 _,Uc 4 53 _,Uc 5 54 _] (.u none [(6,_)] .z) (.k8 (.aU .z)) ⟨mv,mv,mv,KO (m:=x.1) ⟨hx.1.1,by omega⟩,Lo (m:=((x.1.toNat &&& 15:Nat):Int)) (hm:=⟨by omega,by show _<((36:Nat):Int); omega⟩),iE 65 1 (57+x.2-1),LC 12 (n:=65),trivial⟩ (.s .o .z) (.k8 (.bj (.bp (.d .z)))) λa w hI=>?_
  refine sG hI 4 [] [] [Uc 0 55 _,Uc 1 56 _,Uc 2 57 _,Uc 3 1 _] (.k .z) (.k8 (.k (.t 3 (.k .z)))) ⟨mv,mv,LA,mv,trivial⟩ (.k .z) (.k8 (.pP (.eC .z))) λa w hI=>?_
  refine bk ?_
  refine ae ?_
  exact nQ ((x.1/16,x.2-1)) hgo.1 hI ⟨vO,trivial⟩ ⟨gc,gc,gc,gc,gc,gc,gc,gc,gc,gc,gC (bh (show 57+(x.2:Int)-1=57+((x.2-1:Nat):Int) by omega)),trivial⟩ (by show(x.1/16).toNat<x.1.toNat; omega)
 ·
  refine cj ?_
  refine aC ?_
  refine aC ?_
  refine bf ?_
  refine ae ?_
  refine bO hI 3 [] [] [Uc 0 58 _,Uc 1 59 _,Uc 2 13 _] (.k .z) (.k8 (.kk (.t 2 (.k .z)))) ⟨mv,bn,mv,trivial⟩ (.k .z) (.af (.bK (.lG (.eC .z)))) λa w hI=>?_
  refine sG hI 5 [] [] [Uc 0 60 _,Uc 1 61 _,Uc 2 62 _,Uc 3 63 _] (.u none [(4,_)] .z) (.k8 .z) ⟨mv,mv,Lo (m:=x.1) (hm:=⟨hx.1.1,by show _<((36:Nat):Int); omega⟩),iE 65 1 (57+x.2-1),LC 12 (n:=65),trivial⟩ (.s .o .z) (.af (.bS (.bp .z))) λa w hI=>?_
  refine ae ?_
  refine ah ?_
  refine bO hI 1 [] [] [Uc 0 89 _] (.k .z) (.af (.aU .z)) ⟨mv,trivial⟩ (.k .z) (.bS (.af .z)) λa w hI=>?_
  refine mb hI (rfl) ?_
  refine ak ?_
  refine ae ?_
  refine ah ?_
  refine bO hI 1 [] [] [Uc 0 94 _] (.k .z) (.af (.aU .z)) ⟨mv,trivial⟩ (.k .z) (.bS (.bS .z)) λa w hI=>?_
  refine mb hI (rfl) ?_
  refine ak ?_
  refine ae ?_
  refine bO hI 4 [] [] [Uc 0 99 _,Uc 1 100 _,Uc 2 101 _,Uc 3 11 _] (.k .z) (.aU (.t 3 (.kk .z))) ⟨mv,LB (n:=65) (ht:=zQ (by omega)),LU 12 (n:=65),mv,trivial⟩ (.k .z) (.qR (.bp (.dk .z))) λa w hI=>?_
  refine av ?_
  exact fe hI rfl cm (cm (hq:=Hu (by omega)))
theorem EF (hn:0<=n/\n<4294967296):J2 Tryz.prog 110 (dn n) (pI 16) (I1):=by
 intro M w0 v0 v1 hM hG hv0 da
 have hG:=dP hG
 refine fT (N:=32) Tryz.func110 rfl rfl rfl hM hv0 da λa hI=>?_
 refine au hI 1 [Uc 0 4 _] (.kk .z) ⟨mv,trivial⟩ (.aU .z) λa w hI=>?_
 refine ah ?_
 refine au hI 2 [Uc 0 9 _,Uc 1 10 _] (.aU .z) ⟨mv,bn,trivial⟩ (.bj (.k .z)) λa w hI=>?_
 refine mb hI (rfl) ?_
 refine ak ?_
 refine ae ?_
 refine au hI 8 [Uc 0 26 _,Uc 1 27 _,Uc 2 28 _,Uc 3 25 _,Uc 4 29 _,Uc 5 30 _,Uc 6 7 _,Uc 7 8 _] (.af .z) ⟨mv,mv,KT hG (HE (n:=n)) (hφ:=hn),mv,ext,ext,mv,mv,trivial⟩ (.qR (.bp (.cf .z))) λa w hI=>?_
 refine au hI 2 [Uc 0 31 _,Uc 1 4 _] (.t 1 (.k .z)) ⟨mv,mv,trivial⟩ (.cf .z) λa w hI=>?_
 refine av ?_
 exact bW hI rfl cm
theorem EG (hn:0<=n/\n<4294967296):J2 Tryz.prog 73 (dn n) (pI 16) (I1):=by
 intro M w0 v0 v1 hM hG hv0 da
 have hG:=dP hG
 refine fT (N:=8) Tryz.func73 rfl rfl rfl hM hv0 da λa hI=>?_
 refine au hI 1 [Uc 0 4 _] (.kk .z) ⟨mv,trivial⟩ (.aU .z) λa w hI=>?_
 refine au hI 4 [Uc 0 5 _,Uc 1 6 _,Uc 2 7 _,Uc 3 4 _] (.kk (.t 3 .z)) ⟨mv,mv,wU hG (EF (n:=n)) (hφ:=hn),mv,trivial⟩ (.bp (.eC .z)) λa w hI=>?_
 refine av ?_
 exact bW hI rfl cm
theorem zV (h:0<=m/\m<4294967296):∀w,(Go.convert 22 136 (.int .u32 m)).run Tryz.prog w=.ok (.int .u64 m) w:=λw=>by
 have hS:Tryz.prog.underlying 22=some (.int .u32):=by kernel_rfl
 have hD:Tryz.prog.underlying 136=some (.int .u64):=by kernel_rfl
 have hw:IntKind.u64.wrap m=m:=by rw[IntKind.wrap_u64]; omega
 show _=_
 simp only[Go.convert,Sem.run_bind,run_underlying hS,run_underlying hD,Result.andThen_ok]
 show Result.ok (Value.int .u64 (IntKind.u64.wrap m)) w=_
 rw[hw]
theorem qp (l:List UInt8):∀n:Nat,(Lib.repeatL l n).length=l.length*n
 |0=>rfl
 |n+1=>by unfold Lib.repeatL; rw[List.length_append,qp l n,Nat.mul_succ]; omega
theorem HG (h:k<=8):K2 Tryz.prog 74 (pT ⟨#[48]⟩) (pI (k:Int)) (uP k):=λM w v0 v1 hM h0 h1=>by
 obtain rfl:v0=.string ⟨#[48]⟩:=h0.out
 obtain rfl:v1=.int .i64 (k:Int):=h1.out
 refine(Tryz.strings_Repeat ⟨#[48]⟩ k w (by omega) (by show 1*k<=_; omega)).mono ?_
 rintro en w' ⟨rfl,hb⟩
 refine⟨_,rfl,λ_ _=>⟨_,rfl,?_⟩,hb⟩
 show(Lib.repeatL [48] k).toArray.size<=k
 rw[List.size_toArray,qp]
 show 1*k<=k
 omega
theorem EJ (hm:0<=m/\m<4294967296):J1 Tryz.prog 41 (ei m) (uP 8):=by
 intro M w0 v0 hM hG hv0
 have hG:=dP hG
 refine fR (N:=13) Tryz.func41 rfl rfl rfl hM hv0 λa hI=>?_
 refine au hI 1 [Uc 0 2 _] (.k .z) ⟨mv,trivial⟩ (.kk .z) λa w hI=>?_
 refine au hI 4 [Uc 0 4 _,Uc 1 5 _,Uc 2 6 _,Uc 3 3 _] (.kk .z) ⟨mv,fY hs (zV hm) (pt rfl),wU hG (EG (n:=m)) (hφ:=hm),mv,trivial⟩ (.lG (.dk .z)) λa w hI=>?_
 obtain⟨s1,hs1,hI⟩:=Dn 1 hI rfl
 refine au hI 7 [Uc 0 7 _,Uc 1 8 _,Uc 2 9 _,Uc 3 10 _,Uc 4 11 _,Uc 5 12 _,Uc 6 2 _] (.k (.t 6 (.k .z))) ⟨mv,gF,bn,mz (HG (k:=8-s1.size)) (c2:=bh (show(8:Int)-(s1.size:Int)=((8-s1.size:Nat):Int) by omega)) (hφ:=by omega),mv,DD (8-s1.size) s1.size hs (λ_ _ h=>h) hs (oL (Nat.le_refl _)),mv,trivial⟩ (.d8 (.dk .z)) λa w hI=>?_
 refine av ?_
 exact bW hI rfl (cm (hq:=Dx (by omega)))
theorem HF (_:True):J1 Tryz.prog 41 Fp (uP 8):=λM w v0 hM hG h0=>by
 obtain⟨m,hm,rfl⟩:=h0.out
 exact EJ hm M w _ hM hG (λ_ _=>rfl)
theorem Cm {h:Int} (h0:0<=h/\h<4294967296) (s:ByteArray):∀k,0<=qw h s k/\qw h s k<4294967296
 |0=>h0
 |k+1=>by
  show 0<=Cl _ _/\Cl _ _<4294967296
  unfold Cl kY
  generalize 31*IntKind.u32.wrap (qw h s k+IntKind.u32.wrap (bz s k))=q
  rw[IntKind.wrap_u32 (IntKind.u32.wrap q+7)]
  omega
theorem EC (hk:k<=1000000):K2 Tryz.prog 12 Fp (uP k) Fp:=λM w v0 v1 hM h0 h1=>by
 obtain⟨m,hm,rfl⟩:=h0.out
 obtain⟨s,rfl,hs⟩:=h1.out
 exact(yA (h:=m) (s:=s) (by omega) M w _ _ hM (λ_ _=>rfl) (λ_ _=>rfl)).mono λe w' ⟨v,e1,e2,e3⟩=>⟨v,e1,e2.imp λ_ e=>⟨_,Cm hm s _,e⟩,e3⟩
end Wx

namespace Wx
set_option maxRecDepth 100000
set_option maxHeartbeats 1000000
open Go Go.RowKit Go.Proofs
set_option linter.unusedVariables false
attribute [local irreducible] OpOk
def B2 (n:Int):Pred:=λ_ v=>∃k:Nat,((1<=k/\k<=8)/\n<16^k)/\v=.string (gR n k)
variable {n:Int}
theorem zX {m:Int} (h:m=n):∀w v,dn m w v->dn n w v:=by subst h; exactλ_ _ h=>h
theorem Km (j:Nat):(0:Int)<16^j:=Int.pow_pos (by decide)
theorem Hi (hn:0<=n/\n<4294967296) (j:Nat):0<=n/16^j/\n/16^j<4294967296:=by
 have h1:=Int.ediv_nonneg hn.1 (Int.le_of_lt (Km j))
 have h2:=Int.ediv_le_self ((16:Int)^j) hn.1
 omega
theorem Ka (n:Int) (j:Nat):n/16^j/16=n/16^(j+1):=by
 rw[Int.ediv_ediv_of_nonneg (Int.le_of_lt (Km j)),Int.pow_succ]
theorem J9 (n:Int):n=n/16^0:=by rw[show(16:Int)^0=1 from rfl,Int.ediv_one]
variable {j:Nat}
theorem Hh (hn:0<=n/\n<4294967296) (hj:j<=7) (hu:n/16^j>=16):j+1<=7:=by
 rcases Nat.lt_or_ge j 7 with h|h
 ·exact h
 ·exfalso
  obtain rfl:j=7:=by omega
  have e:(16:Int)^7=268435456:=by decide
  rw[e]at hu
  omega
theorem Hj (hu:n/16^j<16):n<16^(j+1):=by
 rw[Int.pow_succ,Int.mul_comm]
 exact(Int.ediv_lt_iff_lt_mul (Km j)).1 hu
theorem DI {u:Int} (h:0<=u):((u.toNat &&& 15:Nat):Int)=u%16:=by
 have e:u.toNat &&& 15=u.toNat%16:=Nat.and_two_pow_sub_one_eq_mod u.toNat 4
 rw[e]
 omega
theorem Et {o:Nat} (h:1<=65-o/\65-o<=8) (hn:n<16^(65-o)):∀w v,pT (xo (kM n) o (65-o)) w v->B2 n w v:=by
 rw[AB (by omega)]
 exactλ_ _ e=>⟨65-o,⟨h,hn⟩,e⟩
section
variable {P:Program} {ops:Array Oper} {ms:List Nat} {c:bQ} {V:List Vr} {A:List Al} {G:List aN} {i d:Nat} {x y z:Operand} {ty t u:TypeId} {pos:String} {aft:Array Edge} {R:Nat->Int}{T:TypeId} {m:Int}
theorem M8 {b n o:Nat} (ht:∀w,(Instr.sliceAt T (.pointer (some ⟨b,0,none⟩)) (some (.int .i64 (o:Int))) none none).run P w=.ok (.slice (some ⟨b,o,none⟩) (n-o) (n-o)) w) (h:Has ms G i x (aG (.pointer (some ⟨b,0,none⟩))):=by exact hs) (hy:Has ms G i y (pI m):=by exact hs) (hp:Post G i (aG (.slice (some ⟨b,o,none⟩) (n-o) (n-o))):=by exact pt rfl) (hm:m=(o:Int):=by omega):OpOk P ops ms c V A G i ⟨some d,.slice T x (some y) none none,ty,pos,aft,none⟩:=by
 subst hm
 exact LB (m:=(o:Int)) h hy ht hp
theorem Ln {s:ByteArray} {r:Int} (e:pH m=r) (hm:0<=m/\m<16) (h:Has ms G i x (pT s):=by exact hs) (hy:Has ms G i y (dn m):=by exact hs) (hz:16<=s.size:=by show 16<=(36:Nat); omega) (hd:∀k:Nat,k<16->bz s k=pH k:=by decide) (ht:isStr P T=true:=by kernel_rfl) (hp:Post G i (sM r):=by exact pt rfl):OpOk P ops ms c V A G i ⟨some d,.index T x y,ty,pos,aft,none⟩:=
 MU (m:=m) h hy (by omega) ht (by
  have:=hd m.toNat (by omega)
  rw[show((m.toNat:Nat):Int)=m by omega,e]at this
  rw[this]
  exact hp)
end
theorem Ch {b o:Nat} (hm:o<=64):∀w,(Instr.sliceAt 214 (.pointer (some ⟨b,0,none⟩)) (some (.int .i64 (o:Int))) none none).run Tryz.prog w=.ok (.slice (some ⟨b,o,none⟩) (65-o) (65-o)) w:=zQ (m:=(o:Int)) (by omega)
variable {n:Int}
theorem EE (hn:0<=n/\n<4294967296):J5 Tryz.prog 147 (aG (.slice none 0 0)) (dn n) (pI 16) (pB false) (pB false) (dF (aG (.slice none 0 0)) (B2 n)):=by
 intro M w0 v0 v1 v2 v3 v4 hM hG hv0 da hv2 hv3 hv4
 have hG:=dP hG
 refine Iv (N:=102) Tryz.func147 rfl rfl rfl hM hv0 da hv2 hv3 hv4 λa hI=>?_
 refine au hI 2 [Uc 0 10 _,Uc 1 11 _] (.af (.k .z)) ⟨mv,mv,trivial⟩ (.af (.aU .z)) λa w hI=>?_
 refine ah ?_
 refine au hI 10 [Uc 0 19 _,Uc 1 20 _,Uc 2 21 _,Uc 3 22 _,Uc 4 23 _,Uc 5 24 _,Uc 6 25 _,Uc 7 26 _,Uc 8 27 _,Uc 9 28 _] (.af (.aU .z)) ⟨mv,bn,mv,gd λh=>cy h,gd λh=>fS h,pk,mv,gd λh=>cy h,gd λh=>fS h,pk,trivial⟩ (.af (.bj (.d8 (.k .z)))) λa w hI=>?_
 refine mb hI (rfl) ?_
 refine ak ?_
 refine ae ?_
 refine bO hI 1 [⟨12,12,some 0,none,.ptr,214,65,true,pv _,[]⟩] [] [] .z (.k8 .z) ⟨LJ (R:=kM n) 65,trivial⟩ (.k .z) (.af (.bj .z)) λa w hI=>?_
 obtain⟨g,hI⟩:=vg hI 0 rfl
 dsimp only[List.set]at hI
 refine bO hI 1 [] [] [Uc 0 13 _] (.k .z) (.k8 .z) ⟨mv,trivial⟩ (.k .z) (.k8 (.k .z)) λa w hI=>?_
 refine ah ?_
 refine bO hI 1 [] [] [Uc 0 30 _] (.k .z) (.k8 (.k .z)) ⟨mv,trivial⟩ (.k .z) (.k8 (.kk .z)) λa w hI=>?_
 refine mb hI (rfl) ?_
 refine ak ?_
 refine ae ?_
 refine ah ?_
 refine bO hI 2 [] [] [Uc 0 33 _,Uc 1 34 _] (.k .z) (.k8 (.kk .z)) ⟨mv,nH yH (hφ:=trivial),trivial⟩ (.k .z) (.k8 (.gS .z)) λa w hI=>?_
 refine Ir hI (rfl) ?_
 refine bO hI 5 [] [] [Uc 0 35 _,Uc 1 36 _,Uc 2 37 _,Uc 3 38 _,Uc 4 14 _] (.k .z) (.k8 (.kk .z)) ⟨mv,lg,Ai hG HH (hφ:=trivial),lg,mv,trivial⟩ (.k .z) (.k8 (.gE (.eC .z))) λa w hI=>?_
 refine bO hI 3 [] [] [Uc 0 39 _,Uc 1 40 _,Uc 2 15 _] (.k .z) (.k8 (.kk .z)) ⟨mv,lg,mv,trivial⟩ (.k .z) (.k8 (.bK (.k .z))) λa w hI=>?_
 refine bO hI 4 [] [] [Uc 0 41 _,Uc 1 42 _,Uc 2 43 _,Uc 3 16 _] (.k .z) (.k8 (.aU .z)) ⟨mv,lg,Lz (m:=16) (n:=1) (r:=15) (by kernel_rfl),mv,trivial⟩ (.k .z) (.bj (.af (.bj (.eC .z)))) λa w hI=>?_
 refine ah ?_
 refine aD ?_
 refine qz [] [Uz 12 _,Uz 0 _,Uz 3 _,Uz 4 _,Uz 10 _,Uz 11 _,Uz 14 _,Uz 15 _,Uz 16 _] (λ(x:Nat)=>[fk 12 g 65 (wv (kM n) 65 (65-(x)))]) (λ(x:Nat)=>[Uz 1 (dn (n/16^(x))),Uz 13 (pI (65-((x:Nat):Int)))]) (λ(x:Nat)=>x<=7) (λ(x:Nat)=>8-x) (0) (by omega) hI ⟨vO,trivial⟩ ⟨gi,gi,gi,gi,gi,gi,gi,gi,gi,gC (zX (J9 n)),gC (bh (by rfl)),trivial⟩ ?_
 intro x a w hx hI
 have hu:=Hi hn x
 have hand:=DI hu.1
 have FW:pH (n/16^x%16)=kM n (65-(x+1)):=by
  show _=nL n (64-(65-(x+1)))
  rw[show 64-(65-(x+1))=x by omega]
  rfl
 refine ah ?_
 refine bO hI 3 [] [] [Uc 0 44 _,Uc 1 45 _,Uc 2 46 _] (.k .z) (.k8 (.aU .z)) ⟨mv,mv,bn,trivial⟩ (.k .z) (.k8 (.bj (.dk .z))) λa w hI=>?_
 refine jv hI (λt1=>?_) (λt1=>?_)
 ·
  refine ak ?_
  refine ae ?_
  refine aD ?_
  have hgo:=Hh hn hx (by assumption)
  refine bO hI 3 [] [] [Uc 0 47 _,Uc 1 48 _,Uc 2 13 _] (.k .z) (.k8 (.kk (.t 2 (.k .z)))) ⟨mv,bn,mv,trivial⟩ (.k .z) (.k8 (.bK (.eC .z))) λa w hI=>?_
  refine bO hI 7 [] [] [Uc 0 49 _,Uc 1 50 _,Uc 2 51 _,Uc 3 52 _,Uc 4 53 _,Uc 5 54 _] (.u none [(6,_)] .z) (.k8 (.aU .z)) ⟨mv,mv,mv,KO (m:=n/16^x) ⟨hu.1,by omega⟩,Ln (m:=(((n/16^x).toNat &&& 15:Nat):Int)) (r:=kM n (65-(x+1))) (by rw[hand]; exact FW) ⟨by omega,by omega⟩,iE 65 1 (65-(x+1)),stA 12 (R:=kM n) (n:=65) (off:=65-(x+1)) (jP _ _),trivial⟩ (.s .o .z) (.k8 (.bj (.bp (.d .z)))) λa w hI=>?_
  refine sG hI 4 [] [] [Uc 0 55 _,Uc 1 56 _,Uc 2 57 _,Uc 3 1 _] (.k .z) (.k8 (.k (.t 3 (.k .z)))) ⟨mv,mv,LA,mv,trivial⟩ (.k .z) (.k8 (.pP (.eC .z))) λa w hI=>?_
  refine bk ?_
  refine ae ?_
  exact nQ (x+1) hgo hI ⟨vO,trivial⟩ ⟨gc,gc,gc,gc,gc,gc,gc,gc,gc,gC (zX (Ka n x)),gC (bh (show 65-(x:Int)-1=65-((x+1:Nat):Int) by omega)),trivial⟩ (by omega)
 ·
  refine cj ?_
  refine aC ?_
  refine aC ?_
  refine bf ?_
  refine ae ?_
  refine bO hI 3 [] [] [Uc 0 58 _,Uc 1 59 _,Uc 2 13 _] (.k .z) (.k8 (.kk (.t 2 (.k .z)))) ⟨mv,bn,mv,trivial⟩ (.k .z) (.af (.bK (.lG (.eC .z)))) λa w hI=>?_
  have hlt:=Hj (n:=n) (j:=x) (by omega)
  refine sG hI 5 [] [] [Uc 0 60 _,Uc 1 61 _,Uc 2 62 _,Uc 3 63 _] (.u none [(4,_)] .z) (.k8 .z) ⟨mv,mv,Ln (m:=n/16^x) (r:=kM n (65-(x+1))) (by rw[<-FW,Int.emod_eq_of_lt hu.1 (by omega)]) ⟨hu.1,by omega⟩,iE 65 1 (65-(x+1)),stA 12 (R:=kM n) (n:=65) (off:=65-(x+1)) (jP _ _),trivial⟩ (.s .o .z) (.af (.bS (.bp .z))) λa w hI=>?_
  refine ae ?_
  refine ah ?_
  refine bO hI 1 [] [] [Uc 0 89 _] (.k .z) (.af (.aU .z)) ⟨mv,trivial⟩ (.k .z) (.bS (.af .z)) λa w hI=>?_
  refine mb hI (rfl) ?_
  refine ak ?_
  refine ae ?_
  refine ah ?_
  refine bO hI 1 [] [] [Uc 0 94 _] (.k .z) (.af (.aU .z)) ⟨mv,trivial⟩ (.k .z) (.bS (.bS .z)) λa w hI=>?_
  refine mb hI (rfl) ?_
  refine ak ?_
  refine ae ?_
  refine bO hI 4 [] [] [Uc 0 99 _,Uc 1 100 _,Uc 2 101 _,Uc 3 11 _] (.k .z) (.aU (.t 3 (.kk .z))) ⟨mv,M8 (n:=65) (o:=65-(x+1)) (Ch (by omega)),LV 12 (R:=kM n) (n:=65) (λj _=>jP _ _),mv,trivial⟩ (.k .z) (.qR (.bp (.dk .z))) λa w hI=>?_
  refine av ?_
  exact fe hI rfl cm (cm (hq:=Et (by omega) (by rw[show 65-(65-(x+1))=x+1 by omega]; exact hlt)))
theorem Bv (hn:0<=n/\n<4294967296):J2 Tryz.prog 110 (dn n) (pI 16) (B2 n):=by
 intro M w0 v0 v1 hM hG hv0 da
 have hG:=dP hG
 refine fT (N:=32) Tryz.func110 rfl rfl rfl hM hv0 da λa hI=>?_
 refine au hI 1 [Uc 0 4 _] (.kk .z) ⟨mv,trivial⟩ (.aU .z) λa w hI=>?_
 refine ah ?_
 refine au hI 2 [Uc 0 9 _,Uc 1 10 _] (.aU .z) ⟨mv,bn,trivial⟩ (.bj (.k .z)) λa w hI=>?_
 refine mb hI (rfl) ?_
 refine ak ?_
 refine ae ?_
 refine au hI 8 [Uc 0 26 _,Uc 1 27 _,Uc 2 28 _,Uc 3 25 _,Uc 4 29 _,Uc 5 30 _,Uc 6 7 _,Uc 7 8 _] (.af .z) ⟨mv,mv,KT hG (EE (n:=n)) (hφ:=hn),mv,ext,ext,mv,mv,trivial⟩ (.qR (.bp (.cf .z))) λa w hI=>?_
 refine au hI 2 [Uc 0 31 _,Uc 1 4 _] (.t 1 (.k .z)) ⟨mv,mv,trivial⟩ (.cf .z) λa w hI=>?_
 refine av ?_
 exact bW hI rfl cm
theorem Bw (hn:0<=n/\n<4294967296):J2 Tryz.prog 73 (dn n) (pI 16) (B2 n):=by
 intro M w0 v0 v1 hM hG hv0 da
 have hG:=dP hG
 refine fT (N:=8) Tryz.func73 rfl rfl rfl hM hv0 da λa hI=>?_
 refine au hI 1 [Uc 0 4 _] (.kk .z) ⟨mv,trivial⟩ (.aU .z) λa w hI=>?_
 refine au hI 4 [Uc 0 5 _,Uc 1 6 _,Uc 2 7 _,Uc 3 4 _] (.kk (.t 3 .z)) ⟨mv,mv,wU hG (Bv (n:=n)) (hφ:=hn),mv,trivial⟩ (.bp (.eC .z)) λa w hI=>?_
 refine av ?_
 exact bW hI rfl cm
abbrev tO (k:Nat):ByteArray:=⟨(Lib.repeatL [48] k).toArray⟩
theorem oI (k:Nat):(tO k).size=k:=by
 show(Lib.repeatL [48] k).toArray.size=k
 rw[List.size_toArray,qp]
 show 1*k=k
 omega
theorem uR:∀(n:Nat) (u:UInt8),u∈Lib.repeatL [48] n->u=48
 |0,u,h=>by cases h
 |n+1,u,h=>by
  unfold Lib.repeatL at h
  rcases List.mem_append.1 h with h|h
  ·exact List.mem_singleton.1 h
  ·exact uR n u h
variable {k:Nat}
theorem B7 {j:Nat} (hj:j<(tO k).size):bz (tO k) j=48:=by
 rw[cG hj]
 have:(tO k)[j]=48:=uR k _ (by
  show(tO k).data[j]∈_
  exact List.mem_toArray.1 (Array.getElem_mem _))
 rw[this]
 rfl
theorem EM (h:k<=8):K2 Tryz.prog 74 (pT ⟨#[48]⟩) (pI (k:Int)) (pT (tO k)):=λM w v0 v1 hM h0 h1=>by
 obtain rfl:v0=.string ⟨#[48]⟩:=h0.out
 obtain rfl:v1=.int .i64 (k:Int):=h1.out
 refine(Tryz.strings_Repeat ⟨#[48]⟩ k w (by omega) (by show 1*k<=_; omega)).mono ?_
 rintro en w' ⟨rfl,hb⟩
 exact⟨_,rfl,λ_ _=>rfl,hb⟩
theorem Eu (h0:0<=n) (h:((1<=k/\k<=8)/\n<16^k)):∀w v,pT (tO (8-(gR n k).size)++gR n k) w v->pT (gR n 8) w v:=by
 rw[cY,xX h0 h.2 h.1.2 (oI _) λj hj=>B7 hj]
 exactλ_ _ h=>h
theorem EI {m:Int} (hm:0<=m/\m<4294967296):J1 Tryz.prog 41 (ei m) (pT (gR m 8)):=by
 intro M w0 v0 hM hG hv0
 have hG:=dP hG
 refine fR (N:=13) Tryz.func41 rfl rfl rfl hM hv0 λa hI=>?_
 refine au hI 1 [Uc 0 2 _] (.k .z) ⟨mv,trivial⟩ (.kk .z) λa w hI=>?_
 refine au hI 4 [Uc 0 4 _,Uc 1 5 _,Uc 2 6 _,Uc 3 3 _] (.kk .z) ⟨mv,fY hs (zV hm) (pt rfl),wU hG (Bw (n:=m)) (hφ:=hm),mv,trivial⟩ (.lG (.dk .z)) λa w hI=>?_
 obtain⟨k,hk,hI⟩:=Dn 1 hI rfl
 have hks:=cY m k
 refine au hI 7 [Uc 0 7 _,Uc 1 8 _,Uc 2 9 _,Uc 3 10 _,Uc 4 11 _,Uc 5 12 _,Uc 6 2 _] (.k (.t 6 (.k .z))) ⟨mv,gF,bn,mz (EM (k:=8-(gR m k).size)) (c2:=bh (show(8:Int)-((gR m k).size:Int)=((8-(gR m k).size:Nat):Int) by omega)) (hφ:=by omega),mv,Iz (hz:=by rw[oI]; omega),mv,trivial⟩ (.d8 (.dk .z)) λa w hI=>?_
 refine av ?_
 exact bW hI rfl (cm (hq:=Eu hm.1 hk))
end Wx
