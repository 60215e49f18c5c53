import Derived.Test.YtfnmkhlleanppaaGreatDoorJWN32
namespace Wx
set_option maxRecDepth 100000
open Go Go.RowKit Go.Proofs
theorem sI (w:World):Calls Tryz.prog 29 #[] w λe w'=>e=.returned (.pointer (some ⟨w.heap.size+1,0,none⟩))/\w'=(w.alloc (.map #[] 0)).alloc (.cells #[.slice none 0 0,.map (some w.heap.size),.slice none 0 0,.slice none 0 0,.slice none 0 0,.string ⟨#[]⟩,.int .u32 0] 99):=by
 have hm:∀w,(Instr.makeMap 96 none).run Tryz.prog w=.ok (.map (some w.heap.size)) (w.alloc (.map #[] 0)):=λ_=>by kernel_rfl
 go_enter Tryz.func29,Tryz.ntmps29
 go_wp2
 go_ret
 exact⟨rfl,rfl⟩
theorem uR (r:Option Nat):dc (.map r):=λ_=>⟨(by simp),by simp⟩
theorem uS (n:Int):dc (.int .u32 n):=λ_=>⟨(by simp),by simp⟩
theorem Ag (w:World):Calls Tryz.prog 29 #[] w (zb (λl:HL=>eA l [] []) (λl=>.pointer (some ⟨l.hb,0,none⟩)) (λl=>aR 0 l [] []) w):=by
 refine(sI w).mono ?_
 rintro e w' ⟨rfl,rfl⟩
 have h1:Below w.heap.size w (w.alloc (.map #[] 0)):=Below.alloc (Below.refl _ _) (Nat.le_refl _) _
 have hs:(w.alloc (.map #[] 0)).heap.size=w.heap.size+1:=by
  show(w.heap.push _).size=_
  rw[Array.size_push]
 have h2:=Below.alloc h1 h1.size (.cells #[.slice none 0 0,.map (some w.heap.size),.slice none 0 0,.slice none 0 0,.slice none 0 0,.string ⟨#[]⟩,.int .u32 0] 99)
 have hnew:=World.alloc_heap_new (w.alloc (.map #[] 0)) (.cells #[.slice none 0 0,.map (some w.heap.size),.slice none 0 0,.slice none 0 0,.slice none 0 0,.string ⟨#[]⟩,.int .u32 0] 99)
 rw[hs]at hnew
 refine⟨⟨w.heap.size+1,0,0,0,0,.map (some w.heap.size)⟩,λk=>k=w.heap.size+1,⟨Nat.le_refl _,Nat.zero_le _,Nat.le_refl _,Nat.zero_le _⟩,rfl,h2,λk hk=>by omega,λk=>⟨?_,?_⟩,?_,λe he=>?_⟩
 ·rintro rfl
  exact⟨_,List.mem_cons_self,rfl⟩
 ·rintro⟨e,he,rfl⟩
  rcases List.mem_cons.1 he with rfl|he
  ·rfl
  ·cases he
 ·exact List.pairwise_cons.2 ⟨λe he=>(List.not_mem_nil he).elim,List.Pairwise.nil⟩
 ·rcases List.mem_cons.1 he with rfl|he
  ·refine⟨[.slice none 0 0,.map (some w.heap.size),.slice none 0 0,.slice none 0 0,.slice none 0 0,.string ⟨#[]⟩,.int .u32 0],_,hnew,Nat.le_refl _,λv hv=>?_,λi it hi=>?_⟩
   ·simp only[List.mem_cons,List.not_mem_nil,or_false]at hv
    rcases hv with rfl|rfl|rfl|rfl|rfl|rfl|rfl
    ·exact aZ _ _ _
    ·exact uR _
    ·exact aZ _ _ _
    ·exact aZ _ _ _
    ·exact aZ _ _ _
    ·exact eE _
    ·exact uS _
   ·match i,hi with
    |0,hi=>injection hi with hi; subst hi; exact rfl
    |1,hi=>injection hi with hi; subst hi; exact rfl
    |2,hi=>injection hi with hi; subst hi; exact rfl
    |3,hi=>injection hi with hi; subst hi; exact rfl
    |4,hi=>injection hi with hi; subst hi; exact rfl
    |5,hi=>injection hi with hi; subst hi; exact⟨⟨#[]⟩,rfl,Nat.zero_le _⟩
    |6,hi=>injection hi with hi; subst hi; exact⟨0,⟨by decide,by decide⟩,rfl⟩
    |j+7,hi=>cases hi
  ·cases he
end Wx

namespace Wx
open Go Go.RowKit Go.Proofs
set_option linter.unusedVariables false
attribute [local irreducible] OpOk
end Wx

namespace Wx
set_option maxRecDepth 100000
set_option maxHeartbeats 1000000
open Go Go.RowKit Go.Proofs
set_option linter.unusedVariables false
attribute [local irreducible] OpOk
section
variable {P:Program} {ops:Array Oper} {ms:List Nat} {c:bD} {V:List Vr} {A:List Al} {G:List aD} {i d:Nat} {x y:Operand} {ty t u:TypeId} {pos:String} {aj:Array Edge} {s r:ByteArray} {m n:Int}
theorem CD (h1:Has ms G i x (pT s):=by exact hs) (h2:Has ms G i y (pT r):=by exact hs) (hz:s.size+r.size<=9223372036854775807:=by omega) (hp:Post G i (pT (s++r)):=by exact pt rfl):OpOk P ops ms c V A G i ⟨some d,.binOp .add t x y u,ty,pos,aj,none⟩:=
 dP rfl rfl rfl rfl h1 h2 hp λρ w h1 h2=>⟨.string (s++r),by
  have h1:ρ x=.string s:=h1
  have h2:ρ y=.string r:=h2
  show(do pure (Next.value (<-(do eqGuard .add t x y (ρ x) (ρ y); Go.binOp .add t (ρ x) (ρ y))))).run P w=_
  rw[h1,h2]
  have hgd:eqGuard .add t x y (.string s) (.string r)=pure ():=by unfold eqGuard; rfl
  have hb:Go.binOp .add t (.string s) (.string r)=Op.stringOp .add s r:=rfl
  rw[hgd,hb,pure_bind,Sem.run_bind,run_string_add_sum w s r hz]
  rfl,λ_ _ _=>rfl⟩
abbrev cW (n:Int):Pred:=aE (.int .u64 n)
theorem Eg (h1:Has ms G i x (cW m):=by exact hs) (h2:Has ms G i y (cW 10):=by exact hs) (hm:0<=m:=by omega) (hp:Post G i (cW (m%10)):=by exact pt rfl):OpOk P ops ms c V A G i ⟨some d,.binOp .rem t x y u,ty,pos,aj,none⟩:=
 bZ h1 h2 (λw=>by
  show Result.ok (Value.int .u64 (m.tmod 10)) w=_
  rw[Int.tmod_eq_emod_of_nonneg hm]) hp
theorem Ef (h1:Has ms G i x (cW m):=by exact hs) (h2:Has ms G i y (cW 10):=by exact hs) (hm:0<=m/\m<=9223372036854775807:=by omega) (hp:Post G i (cW (m/10)):=by exact pt rfl):OpOk P ops ms c V A G i ⟨some d,.binOp .quo t x y u,ty,pos,aj,none⟩:=
 bZ h1 h2 (λw=>by
  show Result.ok (Value.int .u64 (IntKind.u64.wrap (m.tdiv 10))) w=_
  rw[Int.tdiv_eq_ediv_of_nonneg hm.1,show IntKind.u64.wrap (m/10)=(m/10)%18446744073709551616 from rfl,Int.emod_eq_of_lt (by omega) (by omega)]) hp
theorem Da (h1:Has ms G i x (cW m):=by exact hs) (h2:Has ms G i y (cW n):=by exact hs) (hm:0<=m+n/\m+n<=9223372036854775807:=by omega) (hp:Post G i (cW (m+n)):=by exact pt rfl):OpOk P ops ms c V A G i ⟨some d,.binOp .add t x y u,ty,pos,aj,none⟩:=
 bZ h1 h2 (λw=>by
  show Result.ok (Value.int .u64 (IntKind.u64.wrap (m+n))) w=_
  rw[show IntKind.u64.wrap (m+n)=(m+n)%18446744073709551616 from rfl,Int.emod_eq_of_lt (by omega) (by omega)]) hp
theorem By {S D:TypeId} (h:Has ms G i x (pI m):=by exact hs) (hm:0<=m/\m<=9223372036854775807:=by omega) (hr:∀w,(Go.convert S D (.int .i64 m)).run P w=.ok (.int .u64 (IntKind.u64.wrap m)) w:=by exactλ_=>by kernel_rfl) (hp:Post G i (cW m):=by exact pt rfl):OpOk P ops ms c V A G i ⟨some d,.convert S D x,ty,pos,aj,none⟩:=
 fC h (λw=>by rw[hr w,show IntKind.u64.wrap m=m%18446744073709551616 from rfl,Int.emod_eq_of_lt (by omega) (by omega)]) hp
end
variable {r:Int}
theorem yC (h:48<=r/\r<=57):∀w,(Go.convert 160 21 (.int .u64 r)).run Tryz.prog w=.ok (.int .i32 r) w:=λw=>by
 have:r=48\/r=49\/r=50\/r=51\/r=52\/r=53\/r=54\/r=55\/r=56\/r=57:=by omega
 rcases this with rfl|rfl|rfl|rfl|rfl|rfl|rfl|rfl|rfl|rfl<;>(refine Eq.trans (b:=_) ?_ rfl; kernel_rfl)
theorem yD (h:48<=r/\r<=57):∀w,(Go.convert 21 9 (.int .i32 r)).run Tryz.prog w=.ok (.string ⟨#[byteOf r]⟩) w:=λw=>by
 have:r=48\/r=49\/r=50\/r=51\/r=52\/r=53\/r=54\/r=55\/r=56\/r=57:=by omega
 rcases this with rfl|rfl|rfl|rfl|rfl|rfl|rfl|rfl|rfl|rfl<;>(refine Eq.trans (b:=_) ?_ rfl; kernel_rfl)
variable {s:ByteArray}
theorem td {r:ByteArray} (h:s=r):∀w v,pT s w v->pT r w v:=by subst h; exactλ_ _ h=>h
def Bz (n:Int):Nat->Int
 |0=>n
 |_+1=>n/10
def xd (n:Int):Nat->ByteArray
 |0=>⟨#[]⟩
 |_+1=>⟨#[byteOf (48+n%10)]⟩++⟨#[]⟩
variable {n:Int} {i:Nat}
theorem BA (h:1<=n/\n<=9) (hi:i<=1) (hd:Bz n i>0):i=0:=by
 match i,hi,hd with
 |0,_,_=>rfl
 |1,_,hd=>have hd:n/10>0:=hd; omega
theorem BB (h:1<=n/\n<=9) (hi:i<=1) (hd:¬Bz n i>0):i=1:=by
 match i,hi,hd with
 |0,_,hd=>have hd:¬n>0:=hd; omega
 |1,_,_=>rfl
theorem Ah (h:1<=n/\n<=9):K1 Tryz.prog 85 (pI n) (pT (xd n 1)):=by
 intro M w0 v0 hM hv0
 refine fL (N:=31) Tryz.func85 rfl rfl rfl hM hv0 λa hI=>?_
 refine ai hI 1 [Uc 0 2 _] (.k .z) ⟨mv,trivial⟩ (.kk .z) λa w hI=>?_
 refine ai hI 2 [Uc 0 6 _,Uc 1 3 _] (.kk .z) ⟨mv,mv,trivial⟩ (.wZ .z) λa w hI=>?_
 refine aq ?_
 refine ai hI 2 [Uc 0 7 _,Uc 1 8 _] (.kk .z) ⟨mv,bn,trivial⟩ (.bz .z) λa w hI=>?_
 refine qV hI (λt1=>?_) (λt1=>?_)
 ·exfalso; omega
 refine aN ?_
 refine au ?_
 refine ai hI 4 [Uc 0 9 _,Uc 1 10 _,Uc 2 4 _,Uc 3 5 _] (.aU .z) ⟨mv,By,mv,mv,trivial⟩ (.bJ (.ru .z)) λa w hI=>?_
 refine aq ?_
 refine ai hI 2 [Uc 0 11 _,Uc 1 12 _] (.af .z) ⟨mv,bn,trivial⟩ (.af (.dk .z)) λa w hI=>?_
 refine qV hI (λt2=>?_) (λt2=>?_)
 ·exfalso; omega
 refine aN ?_
 refine au ?_
 refine aq ?_
 refine bp ?_
 refine yN [] [Uz 2 _,Uz 3 _] (λ(i:Nat)=>[]) (λ(i:Nat)=>[Uz 5 (cW (Bz n (i))),Uz 4 (pT (xd n (i)))]) (λ(i:Nat)=>i<=1) (λ(i:Nat)=>1-i) (0) (Nat.zero_le _) hI trivial ⟨gi,gi,gc,gc,trivial⟩ ?_
 intro i a w hp hI
 refine aq ?_
 refine ai hI 2 [Uc 0 15 _,Uc 1 16 _] (.af .z) ⟨mv,bn,trivial⟩ (.af (.dk .z)) λa w hI=>?_
 refine qV hI (λt3=>?_) (λt3=>?_)
 ·
  refine aN ?_
  refine au ?_
  refine aq ?_
  refine bp ?_
  obtain rfl:=BA h hp (by assumption)
  refine lQ hI 8 [Uc 0 19 _,Uc 1 20 _,Uc 2 21 _,Uc 3 22 _,Uc 4 23 _,Uc 5 24 _,Uc 6 25 _,Uc 7 4 _] (.aU (.t 7 (.k .z))) ⟨mv,Eg (m:=n),Da (n:=n%10),fC (v:=.int .u64 (48+n%10)) hs (yC (by omega)) (pt rfl),fC (v:=.int .i32 (48+n%10)) hs (yD (by omega)) (pt rfl),mv,CD (hz:=by show 1+0<=9223372036854775807; omega),mv,trivial⟩ (.bT (.d8 (.k .z))) λa w hI=>?_
  refine cJ ?_
  refine au ?_
  refine lQ hI 3 [Uc 0 17 _,Uc 1 18 _,Uc 2 5 _] (.kk (.t 2 (.k .z))) ⟨mv,Ef (m:=n),mv,trivial⟩ (.bz (.gj .z)) λa w hI=>?_
  refine au ?_
  exact xU (0+1) (by omega) hI trivial ⟨gc,gc,gc,gc,trivial⟩ (by omega)
 ·
  refine eJ ?_
  refine bt ?_
  refine bt ?_
  refine cC ?_
  refine au ?_
  refine aq ?_
  obtain rfl:=BB h hp (by assumption)
  refine ai hI 2 [Uc 0 26 _,Uc 1 27 _] (.af (.k .z)) ⟨mv,bn,trivial⟩ (.fK (.gj .z)) λa w hI=>?_
  refine qV hI (λt4=>?_) (λt4=>?_)
  ·exfalso; omega
  refine aN ?_
  refine au ?_
  refine ai hI 2 [Uc 0 30 _,Uc 1 2 _] (.t 1 (.kk .z)) ⟨mv,mv,trivial⟩ (.bY (.k .z)) λa w hI=>?_
  refine ay ?_
  exact bP hI rfl cP
def kA (s:ByteArray) (e:Int):ByteArray:=if e≠0 then⟨#[101,114,114,111,114,32]⟩++xd e 1 else s
theorem sy {e:Int} (h:0<=e/\e<=9):K2 Tryz.prog 56 (pT s) (pI e) (pT (kA s e)):=by
 intro M w0 v0 v1 hM hv0 ck
 refine dM (N:=11) Tryz.func56 rfl rfl rfl hM hv0 ck λa hI=>?_
 refine ai hI 1 [Uc 0 4 _] (.kk .z) ⟨mv,trivial⟩ (.aU .z) λa w hI=>?_
 refine aq ?_
 refine ai hI 2 [Uc 0 5 _,Uc 1 6 _] (.aU .z) ⟨mv,bn,trivial⟩ (.bT (.k .z)) λa w hI=>?_
 refine qV hI (λt1=>?_) (λt1=>?_)
 ·
  refine ai hI 4 [Uc 0 7 _,Uc 1 8 _,Uc 2 9 _,Uc 3 4 _] (.kk (.t 3 (.k .z))) ⟨mv,qO Ah (hφ:=⟨by omega,h.2⟩),CD (hz:=by show 6+(1+0)<=9223372036854775807; omega),mv,trivial⟩ (.jO (.ct .z)) λa w hI=>?_
  refine ay ?_
  refine aJ ?_
  exact bP hI rfl (cP (hq:=td (by unfold kA; rw[if_pos t1])))
 ·
  refine aN ?_
  refine au ?_
  refine ai hI 2 [Uc 0 10 _,Uc 1 4 _] (.kk (.t 1 (.k .z))) ⟨mv,mv,trivial⟩ (.bY (.dk .z)) λa w hI=>?_
  refine ay ?_
  exact bP hI rfl (cP (hq:=td (by unfold kA; rw[if_neg t1])))
end Wx
