import Derived.Laws.Concat
import Derived.Test.YtfnmkhlleanppaaGreatDoorJWF35
namespace Wx
set_option maxRecDepth 100000
set_option maxHeartbeats 1000000
open Go Go.RowKit Go.Proofs
set_option linter.unusedVariables false
attribute [local irreducible] OpOk
section
variable {P:Program} {ops:Array Oper} {ms:List Nat} {c:bO} {V:List Vr} {A:List Al} {G:List aK} {i d:Nat} {x y:Operand} {ty t u:TypeId} {pos:String} {ax:Array Edge} {s r:ByteArray} {m n:Int}
theorem EM (h1:Has ms G i x (pT s):=by exact hs) (h2:Has ms G i y (pT r):=by exact hs) (hz:s.size+r.size<=9223372036854775807:=by omega) (hp:Post G i (pT (s++r)):=by exact pt rfl):OpOk P ops ms c V A G i ⟨some d,.binOp .add t x y u,ty,pos,ax,none⟩:=
 eK rfl rfl rfl rfl h1 h2 hp λρ w h1 h2=>⟨.string (s++r),by
  have h1:ρ x=.string s:=h1
  have h2:ρ y=.string r:=h2
  show(do pure (Next.value (<-(do eqGuard .add t x y (ρ x) (ρ y); Go.binOp .add t (ρ x) (ρ y))))).run P w=_
  rw[h1,h2]
  have hgd:eqGuard .add t x y (.string s) (.string r)=pure ():=by unfold eqGuard; rfl
  have hb:Go.binOp .add t (.string s) (.string r)=Op.stringOp .add s r:=rfl
  rw[hgd,hb,pure_bind,Sem.run_bind,run_string_add_sum w s r hz]
  rfl,λ_ _ _=>rfl⟩
abbrev dG (n:Int):Pred:=aL (.int .u64 n)
theorem Gq (h1:Has ms G i x (dG m):=by exact hs) (h2:Has ms G i y (dG 10):=by exact hs) (hm:0<=m:=by omega) (hp:Post G i (dG (m%10)):=by exact pt rfl):OpOk P ops ms c V A G i ⟨some d,.binOp .rem t x y u,ty,pos,ax,none⟩:=
 cj h1 h2 (λw=>by
  show Result.ok (Value.int .u64 (m.tmod 10)) w=_
  rw[Int.tmod_eq_emod_of_nonneg hm]) hp
theorem Gp (h1:Has ms G i x (dG m):=by exact hs) (h2:Has ms G i y (dG 10):=by exact hs) (hm:0<=m/\m<=9223372036854775807:=by omega) (hp:Post G i (dG (m/10)):=by exact pt rfl):OpOk P ops ms c V A G i ⟨some d,.binOp .quo t x y u,ty,pos,ax,none⟩:=
 cj h1 h2 (λw=>by
  show Result.ok (Value.int .u64 (IntKind.u64.wrap (m.tdiv 10))) w=_
  rw[Int.tdiv_eq_ediv_of_nonneg hm.1,show IntKind.u64.wrap (m/10)=(m/10)%18446744073709551616 from rfl,Int.emod_eq_of_lt (by omega) (by omega)]) hp
theorem Fo (h1:Has ms G i x (dG m):=by exact hs) (h2:Has ms G i y (dG n):=by exact hs) (hm:0<=m+n/\m+n<=9223372036854775807:=by omega) (hp:Post G i (dG (m+n)):=by exact pt rfl):OpOk P ops ms c V A G i ⟨some d,.binOp .add t x y u,ty,pos,ax,none⟩:=
 cj h1 h2 (λw=>by
  show Result.ok (Value.int .u64 (IntKind.u64.wrap (m+n))) w=_
  rw[show IntKind.u64.wrap (m+n)=(m+n)%18446744073709551616 from rfl,Int.emod_eq_of_lt (by omega) (by omega)]) hp
theorem DD {S D:TypeId} (h:Has ms G i x (pI m):=by exact hs) (hm:0<=m/\m<=9223372036854775807:=by omega) (hr:∀w,(Go.convert S D (.int .i64 m)).run P w=.ok (.int .u64 (IntKind.u64.wrap m)) w:=by exactλ_=>by kernel_rfl) (hp:Post G i (dG m):=by exact pt rfl):OpOk P ops ms c V A G i ⟨some d,.convert S D x,ty,pos,ax,none⟩:=
 dX h (λw=>by rw[hr w,show IntKind.u64.wrap m=m%18446744073709551616 from rfl,Int.emod_eq_of_lt (by omega) (by omega)]) hp
end
variable {r:Int}
theorem A3 (h:48<=r/\r<=57):∀w,(Go.convert 160 21 (.int .u64 r)).run Tryz.prog w=.ok (.int .i32 r) w:=λw=>by
 have:r=48\/r=49\/r=50\/r=51\/r=52\/r=53\/r=54\/r=55\/r=56\/r=57:=by omega
 rcases this with rfl|rfl|rfl|rfl|rfl|rfl|rfl|rfl|rfl|rfl<;>(refine Eq.trans (b:=_) ?_ rfl; kernel_rfl)
theorem A4 (h:48<=r/\r<=57):∀w,(Go.convert 21 9 (.int .i32 r)).run Tryz.prog w=.ok (.string ⟨#[byteOf r]⟩) w:=λw=>by
 have:r=48\/r=49\/r=50\/r=51\/r=52\/r=53\/r=54\/r=55\/r=56\/r=57:=by omega
 rcases this with rfl|rfl|rfl|rfl|rfl|rfl|rfl|rfl|rfl|rfl<;>(refine Eq.trans (b:=_) ?_ rfl; kernel_rfl)
variable {s:ByteArray}
theorem vl {r:ByteArray} (h:s=r):∀w v,pT s w v->pT r w v:=by subst h; exactλ_ _ h=>h
def DF (n:Int):Nat->Int
 |0=>n
 |_+1=>n/10
def zH (n:Int):Nat->ByteArray
 |0=>⟨#[]⟩
 |_+1=>⟨#[byteOf (48+n%10)]⟩++⟨#[]⟩
variable {n:Int} {i:Nat}
theorem DG (h:1<=n/\n<=9) (hi:i<=1) (hd:DF n i>0):i=0:=by
 match i,hi,hd with
 |0,_,_=>rfl
 |1,_,hd=>have hd:n/10>0:=hd; omega
theorem DI (h:1<=n/\n<=9) (hi:i<=1) (hd:¬DF n i>0):i=1:=by
 match i,hi,hd with
 |0,_,hd=>have hd:¬n>0:=hd; omega
 |1,_,_=>rfl
theorem Cx (h:1<=n/\n<=9):K1 Tryz.prog 85 (pI n) (pT (zH n 1)):=by
 intro M w0 v0 hM hv0
 refine gE (N:=31) Tryz.func85 rfl rfl rfl hM hv0 λa hI=>?_
 refine au hI 1 [Uc 0 2 _] (.k .z) ⟨mv,trivial⟩ (.kk .z) λa w hI=>?_
 refine au hI 2 [Uc 0 6 _,Uc 1 3 _] (.kk .z) ⟨mv,mv,trivial⟩ (.zG .z) λa w hI=>?_
 refine ah ?_
 refine au hI 2 [Uc 0 7 _,Uc 1 8 _] (.kk .z) ⟨mv,bn,trivial⟩ (.bQ .z) λa w hI=>?_
 refine jy hI (λt1=>?_) (λt1=>?_)
 ·exfalso; omega
 refine av ?_
 refine af ?_
 refine au hI 4 [Uc 0 9 _,Uc 1 10 _,Uc 2 4 _,Uc 3 5 _] (.aP .z) ⟨mv,DD,mv,mv,trivial⟩ (.cg (.td .z)) λa w hI=>?_
 refine ah ?_
 refine au hI 2 [Uc 0 11 _,Uc 1 12 _] (.ae .z) ⟨mv,bn,trivial⟩ (.ae (.dk .z)) λa w hI=>?_
 refine jy hI (λt2=>?_) (λt2=>?_)
 ·exfalso; omega
 refine av ?_
 refine af ?_
 refine ah ?_
 refine aI ?_
 refine qF [] [Uz 2 _,Uz 3 _] (λ(i:Nat)=>[]) (λ(i:Nat)=>[Uz 5 (dG (DF n (i))),Uz 4 (pT (zH n (i)))]) (λ(i:Nat)=>i<=1) (λ(i:Nat)=>1-i) (0) (Nat.zero_le _) hI trivial ⟨gi,gi,gc,gc,trivial⟩ ?_
 intro i a w hp hI
 refine ah ?_
 refine au hI 2 [Uc 0 15 _,Uc 1 16 _] (.ae .z) ⟨mv,bn,trivial⟩ (.ae (.dk .z)) λa w hI=>?_
 refine jy hI (λt3=>?_) (λt3=>?_)
 ·
  refine av ?_
  refine af ?_
  refine ah ?_
  refine aI ?_
  obtain rfl:=DG h hp (by assumption)
  refine jD hI 8 [Uc 0 19 _,Uc 1 20 _,Uc 2 21 _,Uc 3 22 _,Uc 4 23 _,Uc 5 24 _,Uc 6 25 _,Uc 7 4 _] (.aP (.t 7 (.k .z))) ⟨mv,Gq (m:=n),Fo (n:=n%10),dX (v:=.int .u64 (48+n%10)) hs (A3 (by omega)) (pt rfl),dX (v:=.int .i32 (48+n%10)) hs (A4 (by omega)) (pt rfl),mv,EM (hz:=by show 1+0<=9223372036854775807; omega),mv,trivial⟩ (.bq (.d8 (.k .z))) λa w hI=>?_
  refine bF ?_
  refine af ?_
  refine jD hI 3 [Uc 0 17 _,Uc 1 18 _,Uc 2 5 _] (.kk (.t 2 (.k .z))) ⟨mv,Gp (m:=n),mv,trivial⟩ (.bQ (.fh .z)) λa w hI=>?_
  refine af ?_
  exact pq (0+1) (by omega) hI trivial ⟨gc,gc,gc,gc,trivial⟩ (by omega)
 ·
  refine bZ ?_
  refine aB ?_
  refine aB ?_
  refine aW ?_
  refine af ?_
  refine ah ?_
  obtain rfl:=DI h hp (by assumption)
  refine au hI 2 [Uc 0 26 _,Uc 1 27 _] (.ae (.k .z)) ⟨mv,bn,trivial⟩ (.gT (.fh .z)) λa w hI=>?_
  refine jy hI (λt4=>?_) (λt4=>?_)
  ·exfalso; omega
  refine av ?_
  refine af ?_
  refine au hI 2 [Uc 0 30 _,Uc 1 2 _] (.t 1 (.kk .z)) ⟨mv,mv,trivial⟩ (.bN (.k .z)) λa w hI=>?_
  refine aA ?_
  exact cu hI rfl cC
def me (s:ByteArray) (e:Int):ByteArray:=if e≠0 then⟨#[101,114,114,111,114,32]⟩++zH e 1 else s
theorem Av {e:Int} (h:0<=e/\e<=9):K2 Tryz.prog 56 (pT s) (pI e) (pT (me s e)):=by
 intro M w0 v0 v1 hM hv0 dc
 refine ia (N:=11) Tryz.func56 rfl rfl rfl hM hv0 dc λa hI=>?_
 refine au hI 1 [Uc 0 4 _] (.kk .z) ⟨mv,trivial⟩ (.aP .z) λa w hI=>?_
 refine ah ?_
 refine au hI 2 [Uc 0 5 _,Uc 1 6 _] (.aP .z) ⟨mv,bn,trivial⟩ (.bq (.k .z)) λa w hI=>?_
 refine jy hI (λt1=>?_) (λt1=>?_)
 ·
  refine au hI 4 [Uc 0 7 _,Uc 1 8 _,Uc 2 9 _,Uc 3 4 _] (.kk (.t 3 (.k .z))) ⟨mv,oZ Cx (hφ:=⟨by omega,h.2⟩),EM (hz:=by show 6+(1+0)<=9223372036854775807; omega),mv,trivial⟩ (.eF (.bV .z)) λa w hI=>?_
  refine aA ?_
  refine aE ?_
  exact cu hI rfl (cC (hq:=vl (by unfold me; rw[if_pos t1])))
 ·
  refine av ?_
  refine af ?_
  refine au hI 2 [Uc 0 10 _,Uc 1 4 _] (.kk (.t 1 (.k .z))) ⟨mv,mv,trivial⟩ (.bN (.dk .z)) λa w hI=>?_
  refine aA ?_
  exact cu hI rfl (cC (hq:=vl (by unfold me; rw[if_neg t1])))
end Wx

namespace Wx
open Go Go.RowKit
section
variable {P:Program} {ops:Array Oper} {ms:List Nat} {c:bO} {V:List Vr} {A:List Al} {G:List aK} {i:Nat} {L:Nat->Bool} {β:Nat->Nat->Prop} {a:Act} {w:World} {o:Oper}{d:Nat} {x y z:Operand} {ty:TypeId} {pos:String} {ax:Array Edge}{sz:Nat} {H:List Bk} {hv:Value} {l:List Value}
theorem qg {T tx E:TypeId} {n m:Nat} {ag:Bool} {f:Nat->Pred} {v1 yv:Vr} {l':List Value} (k:Nat) (hk:V[k]?=some v1) (ho:bS ms i v1=true) (cn:v1.kd=.obj) (dP:v1.dead=some i) (hst:(v1.st.all λq=>(q.1==i||(ms.getD i 0).testBit q.1)||(ms.getD q.1 0).testBit i)=true)
  (hc:cont (λj=>(ms.getD i 0).testBit j) v1.c0 v1.st=rq H) (k2:Nat) (hk2:V[k2]?=some yv) (hb:yv.born=some i) (cK:yv.kd=.obj) (hc0:yv.c0=vc H hv (n+m) sz (l++l')) (hs0:yv.st=[]) (hal:(A.all λp=>p.var != yv.id||p.tag.any λj=>(ms.getD j 0).testBit i)=true)
  (h1:Has ms G i x (aL hv)) (h2:Has ms G i y (az sz ag m f)) (hl0:l.length=n*sz) (hag:ag=false->sz=1) (Ca:∀i,i<m->Fits sz ag (f i)) (hnews:∀(w:World) (cs:List Value),cs.length=m*sz->(∀i,i<m->f i w (ai ag ((cs.drop (i*sz)).take sz)))->cs=l') (nZ:(hv=.slice none 0 0/\n=0)\/∃b cap,hv=.slice (some ⟨b,0,none⟩) n cap/\n<=cap/\cap<=maxLen/\fB b l (cap*sz)∈H)
  (ht:nB P T tx E sz) (hpos:0<m) (hmax:n+m<=1073741824) (hp:Post G i ay):
  OpOk P ops ms c V A G i ⟨some d,.call ⟨.builtin .append,#[x,y],#[T,tx]⟩,ty,pos,ax,none⟩:=by
 refine dz (λL β a w hI hd hwf=>?_) rfl
 have hx:=List.mem_of_getElem? hk
 have hy:=List.mem_of_getElem? hk2
 have qR:=hd.live ho
 have hO:=jh hI hd hx ho cn
 have hH:bR (β v1.id) w H:=by
  have:=hO.2.out
  rw[fc hd hst,hc]at this
  exact this
 have tM:a.eval x=hv:=(h1.spec hI hd).out
 obtain⟨A2,nM,news,zI,E1,hc2,ie,lu,hnc,yz⟩:=gD hag Ca (h2.spec hI hd)
 have hN:=hnews w news ie λi hi=>(yz i hi).out
 subst hN
 have hlt:l.length+news.length=(n+m)*sz:=by rw[hl0,ie,Nat.add_mul]
 obtain⟨E',Ab⟩:=ht.src
 obtain⟨ti,zv,hi,hsz,hz,hzs,Ae,hby⟩:=ht.info
 have hS:Src P ti.size tx (a.eval y) m news w:=by
  rw[zI,hsz]
  exact qv Ab ie (λu hu=>(lu u hu).2) λh=>by
   obtain⟨b,o,e,hc⟩:=hnc h
   exact⟨b,o,e,λj u hj=>(hc j u hj).1⟩
 have only:∀z,z∈V->live L z=true->z.dead≠some i->z.id≠v1.id:=λz hz _ jr e=>by
  have:=hwf.vu z v1 hz hx e
  subst this
  exact jr dP
 have AO:∀k j,β v1.id k->own c V L β k j:=λk j hk=>.inr ⟨v1,hx,qR,hk,by unfold Vr.lo; rw[cn]; exact Nat.zero_le _⟩
 have close:∀(w':World) (blk cap':Nat) (cur':List Value) (T':TypeId),w'.heap[blk]?=some (.cells cur'.toArray T' (0,0))->cap'*sz<=cur'.length->n+m<=cap'->cap'<=maxLen->(∀u∈cur',dx u) ->
   cur'.take ((n+m)*sz)=l++news->((∃n c,hv=.slice (some ⟨blk,0,none⟩) n c)\/∀e,e∈H->e.b≠blk)->mine c blk->(w'.os=w.os/\w'.tape=w.tape/\w'.output=w.output/\w.heap.size<=w'.heap.size)->(∀k,k<w.heap.size->k≠blk->w'.heap[k]?=w.heap[k]?)->(blk<w.heap.size->β v1.id blk) ->
   (Builtin.append_ #[T,tx] ty #[a.eval x,a.eval y]).run P w=.ok (.slice (some ⟨blk,0,none⟩) (n+m) cap') w'->Does P ⟨some d,.call ⟨.builtin .append,#[x,y],#[T,tx]⟩,ty,pos,ax,none⟩ a w (Inv c V A G (upd L i)):=by
  intro w' blk cap' cur' T' eT mP hle hmx zX Cl Ac dQ e0 hsame wP hrun
  refine cW hrun ?_
  have lq:∀k,k<c.w0.heap.size->¬c.de k->k≠blk:=λk h1 h2 e=>dQ.elim (λh3=>by omega) (λh3=>h2 (e▸h3))
  have ext:∀M:Nat->Nat->Prop,(blk<w.heap.size->∀j,M blk j)->Ext M w w':=λM hM=>by
   refine⟨e0.2.2.2,λk hk hno=>hsame k hk λe=>?_,λk o v hno hv=>?_⟩
   ·subst e
    exact hno 0 (hM hk 0)
   ·have hk:=World.block_lt_of_cell? w _ hv
    rw[World.cell?_of_block (w:=w) (a:=⟨k,o,none⟩) (hsame k hk λe=>by subst e; exact hno (hM hk o))]
    exact hv
  have e3:Ext (own c V L β) w w':=ext _ λhk j=>AO _ j (wP hk)
  have je:=aM hI
  have hbk:(fB blk (l++news) (cap'*sz)).ok w':=by
   refine⟨cur',T',eT,?_,zX,λq it hq=>?_⟩
   ·show(dH (l++news) (cap'*sz)).length*1<=cur'.length
    rw[fo,List.length_append,hlt,Nat.mul_one]
    have:=Nat.mul_le_mul_right sz hle
    omega
   ·have hq:(dH (l++news) (cap'*sz))[q]?=some it:=hq
    rcases Nat.lt_or_ge q (l++news).length with oh|oh
    ·rw[eD oh]at hq
     injection hq with hq
     subst hq
     show ai false ((cur'.drop (q*1)).take 1)=(l++news)[q]
     have uo:=oh
     rw[List.length_append,hlt]at uo
     have e1:cur'[q]?=some ((l++news)[q]):=by
      have e2:(cur'.take ((n+m)*sz))[q]?=(l++news)[q]?:=by rw[Cl]
      rw[List.getElem?_take,if_pos uo]at e2
      rw[e2,List.getElem?_eq_getElem oh]
     rw[Nat.mul_one]
     obtain⟨hqc,e2⟩:=List.getElem?_eq_some_iff.1 e1
     rw[List.drop_eq_getElem_cons hqc,e2]
     rfl
    ·rw[oU oh hq]
     trivial
  have ud:=hH.BI je e3 hsame hbk
  have fj:=hwf.v2 yv hy hb
  refine hI.kH hd hwf hy hb rfl rfl hal (B':=λk=>β v1.id k\/k=blk) e0 (λk hk hn=>hsame k (Nat.lt_of_lt_of_le hk hI.below.size) (lq k hk hn)) (λz hz hl jr k hk=>?_) e3 (λz hz hl jr=>ext _ λhk j=>⟨AO _ j (wP hk),λe=>hI.apart z v1 blk hz hx hl qR (only z hz hl jr) e (wP hk)⟩) (λk j hk hB _=>AO k j (hB.elim (λh=>h) λe=>by subst e; exact wP hk)) (λβ' qV hown qT=>?_) (λβ' qV hown qT e he ht=>?_)
  ·have hkb:k≠blk:=λe=>by
    subst e
    exact hI.apart z v1 k hz hx hl qR (only z hz hl jr) hk (wP (bD hI hz hl hk))
   exact⟨hsame k (bD hI hz hl hk) hkb,λh=>h.elim (λh=>hI.apart z v1 k hz hx hl qR (only z hz hl jr) hk h) hkb⟩
  ·refine(aR cK).2 ?_
   rw[qV]
   have Ch:da (own c V (upd L i) β') w':=by
    intro q j hq
    rcases qT q j hq with⟨hB,_⟩|h|⟨z,hz,hl,jr,Ej⟩
    ·exact⟨(ud.mY hB).1,λv hv=>(ud.mY hB).2 j v hv⟩
    ·obtain⟨⟨k1,k2⟩,k3⟩:=hI.old q j h
     have Bq:=Nat.lt_of_lt_of_le k1 hI.below.size
     refine⟨Nat.lt_of_lt_of_le Bq e0.2.2.2,λv hv=>k3 v ?_⟩
     rw[World.cell?_of_block (w:=w) (a:=⟨q,j,none⟩) (hsame q Bq (lq q k1 k2))]at hv
     exact hv
    ·have Bq:=bD hI hz hl Ej
     have hkb:q≠blk:=λe=>by
      subst e
      exact hI.apart z v1 q hz hx hl qR (only z hz hl jr) Ej (wP Bq)
     refine⟨Nat.lt_of_lt_of_le Bq e0.2.2.2,λv hv=>(iU hI hz hl Ej).2.2 j v ?_⟩
     rw[World.cell?_of_block (w:=w) (a:=⟨q,j,none⟩) (hsame q Bq hkb)]at hv
     exact hv
   refine⟨λq hq=>⟨?_,(ud.mY hq).1,λo v hv=>(ud.mY hq).2 o v hv⟩,?_⟩
   ·rcases hq with hq|rfl
    ·exact(hO.1 q hq).1
    ·exact dQ
   ·rw[hs0,hc0]
    refine(ud.box Ch).imp λw'' h=>⟨(blk,cap'),⟨hle,hmx,Ac⟩,?_,h⟩
    rw[fj]
    exact cH (by rw[hI.size]; exact hwf.sz _ fj)
  ·exactλw'' _=>hp.spec hwf he ht w'' _ trivial
 have fresh:∀(bs:Option Addr) (sc:Nat),(∀u∈l,dx u)->hv=.slice bs n sc->sc<n+m->(Builtin.firstCells ti.size n (.slice bs n sc)).run P w.drew=.ok l.toArray w.drew ->
   Does P ⟨some d,.call ⟨.builtin .append,#[x,y],#[T,tx]⟩,ty,pos,ax,none⟩ a w (Inv c V A G (upd L i)):=by
  intro bs sc zY e hlt hold
  have hrun:=run_append_grow_src (P:=P) w T tx ty E ti zv ht.under hi hz bs n sc l hold (a.eval y) m news hS hlt (by omega) (growslice_fits hlt (by
   have:(n+m)*ti.bytes<=1073741824*4096:=Nat.mul_le_mul hmax hby
   omega))
  have hge:=grownCap_ge w (n+m) sc E
  have mR:∀q,(Builtin.zeroCells zv.cells q).toList.length=q*sz:=λq=>by rw[Array.length_toList,size_zeroCells,hzs]
  have hb0:Below w.heap.size w (w.drew.alloc (.cells (l++news++(Builtin.zeroCells zv.cells (grownCap w (n+m) sc E-(n+m))).toList).toArray E)):=Below.alloc (Below.drew (Below.refl _ _)) (Nat.le_refl _) _
  refine close (w.drew.alloc (.cells (l++news++(Builtin.zeroCells zv.cells (grownCap w (n+m) sc E-(n+m))).toList).toArray E)) w.heap.size (grownCap w (n+m) sc E) _ E (heap_alloc_new w.drew _) ?_ hge (grownCap_le_maxLen w (n+m) sc E (by unfold maxLen; omega)) ?_ ?_ (.inr λe he=>Nat.ne_of_lt (Bk.gP (hH.2.2 e he))) (.inl hI.below.size) ⟨hb0.os,hb0.tape,hb0.output,hb0.size⟩ (λk hk _=>hb0.block k hk) (λh=>absurd h (Nat.lt_irrefl _)) ?_
  ·rw[List.length_append,List.length_append,hl0,ie,mR,<-Nat.add_mul,<-Nat.add_mul]
   exact Nat.mul_le_mul_right _ (by omega)
  ·intro u hu
   rcases List.mem_append.1 hu with hu|hu
   ·rcases List.mem_append.1 hu with hu|hu
    ·exact zY u hu
    ·exact(lu u hu).1
   ·exact dL Ae _ u hu
  ·rw[<-show(l++news).length=(n+m)*sz by rw[List.length_append,hl0,ie,Nat.add_mul],List.take_left]
  ·rw[tM,e,hrun]
   congr 3
   apply Array.ext'
   simp
 rcases nZ with⟨e,e2⟩|⟨b,cap,e,hrc,Ef,hme⟩
 ·subst e2
  have hl':l=[]:=List.eq_nil_of_length_eq_zero (by rw[hl0,Nat.zero_mul])
  subst hl'
  exact fresh none 0 (λu hu=>by cases hu) e (by omega) (run_firstCells_none w.drew ti.size 0 0 0)
 ·obtain⟨cs,T',g1,g2,g3,g4⟩:=hH.2.2 _ hme
  have g1:w.heap[b]?=some (.cells cs.toArray T' (0,0)):=g1
  have g2:(dH l (cap*sz)).length*1<=cs.length:=g2
  have zW:n*sz<=cap*sz:=Nat.mul_le_mul_right _ hrc
  rw[fo,Nat.mul_one,hl0,Nat.max_eq_right zW]at g2
  have F1:n*sz<=cs.length:=by omega
  have Aa:cs.take (n*sz)=l:=by
   apply List.ext_getElem?
   intro q
   rw[List.getElem?_take]
   split
   ·rename_i hq
    have wJ:q<l.length:=by omega
    have h5:=g4 q _ (eD wJ)
    have h5:ai false ((cs.drop (q*1)).take 1)=l[q]:=h5
    have hqc:q<cs.length:=by omega
    rw[Nat.mul_one,List.drop_eq_getElem_cons hqc]at h5
    rw[List.getElem?_eq_getElem hqc,List.getElem?_eq_getElem wJ]
    exact congrArg some h5
   ·rw[List.getElem?_eq_none (by omega)]
  have C8:β v1.id b:=(hH.1 _).2 ⟨_,hme,rfl⟩
  by_cases hroom:n+m<=cap
  ·have Eg:(n+m)*sz<=cap*sz:=Nat.mul_le_mul_right _ hroom
   rw[Nat.add_mul]at Eg
   have hsome:∀j,j<news.length->(w.cell? ⟨b,0+n*ti.size+j,none⟩).isSome=true:=by
    intro j hj
    simp only[World.cell?,g1]
    rw[List.getElem?_toArray,List.getElem?_eq_getElem (by rw[hsz]; omega)]
    rfl
   have hfz:∀j,j<news.length->w.frozen? ⟨b,0+n*ti.size+j,none⟩=false:=by
    intro j hj
    simp[World.frozen?,g1]
   have hrun:=run_append_room_src (P:=P) w T tx ty E ti ht.under hi b 0 n cap (a.eval y) m news hS hroom hsome hfz
   have dB:w.setCells b (0+n*ti.size) news=w.setRow b (cs.take (n*sz)++news++cs.drop (n*sz+news.length)).toArray:=by
    have r1:=run_storeCells_cells (P:=P) b (0+n*ti.size) news 0 w (by simpa using hsome) (by simpa using hfz) λu hu=>(lu u hu).2
    have r2:=run_storeCells_at P b (0+n*ti.size) T' news 0 cs.toArray w g1 (by simp[hsz]; omega) λu hu=>(lu u hu).2
    rw[r1]at r2
    injection r2 with _ r2
    simpa [hsz] using r2
   rw[dB]at hrun
   refine close _ b cap (cs.take (n*sz)++news++cs.drop (n*sz+news.length)) T' (setRow_heap w _ _ _ _ _ g1) ?_ hroom Ef ?_ ?_ (.inl ⟨_,_,e⟩) (hO.1 _ C8).1 ⟨rfl,rfl,rfl,Nat.le_of_eq size_setRow.symm⟩ (λk _ hne=>aq hne) (λ_=>C8) ?_
   ·simp only[List.length_append,List.length_take,List.length_drop,ie]; omega
   ·intro u hu
    simp only[List.mem_append]at hu
    rcases hu with(hu|hu)|hu
    ·exact g3 u (List.mem_of_mem_take hu)
    ·exact(lu u hu).1
    ·exact g3 u (List.mem_of_mem_drop hu)
   ·rw[Aa,<-show(l++news).length=(n+m)*sz by rw[List.length_append,hl0,ie,Nat.add_mul],List.take_left]
   ·rw[tM,e]
    exact hrun
  ·refine fresh (some ⟨b,0,none⟩) cap (λu hu=>g3 u (List.mem_of_mem_take (Aa▸hu))) e (by omega) ?_
   rw[hsz]
   refine run_firstCells_some w.drew sz n ⟨b,0,none⟩ n cap l hl0 λj u hj=>?_
   rw[Addr.add_mid]
   show w.cell? ⟨b,0+j,none⟩=some u
   rw[Nat.zero_add]
   simp only[World.cell?,g1]
   rw[<-Aa,List.getElem?_take]at hj
   split at hj
   ·simpa using hj
   ·cases hj
theorem AM {N id s:Nat} (h:Inv c V [] G none_ a w) (n0:Nat) (hk:V[n0]?=some ⟨id,s,none,none,.obj,0,0,false,vc H hv N sz l,[]⟩) (hu:(V.filter λy=>y.id==id).length=1):
  ∃z:Nat×Nat,gK H hv N z/\Inv c (V.set n0 (aQ id s (ij H z.1 (dH l (z.2*sz))))) [] (⟨none,none,s,aL (.slice (some ⟨z.1,0,none⟩) N z.2)⟩::G) none_ a w:=
 Inv.CH (C:=λz:Nat×Nat=>gK H hv N z) (hd:=λz=>.slice (some ⟨z.1,0,none⟩) N z.2) (Hl:=λz=>ij H z.1 (dH l (z.2*sz))) h hk (λz z' e=>by
  injection e with e1 _ e3
  injection e1 with e1
  injection e1 with e1
  exact Prod.ext e1 e3) hu
end
end Wx
