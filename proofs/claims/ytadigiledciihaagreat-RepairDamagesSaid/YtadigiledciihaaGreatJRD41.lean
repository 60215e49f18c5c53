import Derived.Test.YtadigiledciihaaGreatCRDNAddS
import Derived.Laws.IdiomStrings
import Derived.Maps.AppendAt
import Derived.Lib.IndexLaws
import Derived.Lib.Strings
import Derived.WalkSpells
import Derived.Lib.Slices
import Derived.Lib.Walk
import Derived.Lib.Builder
import Derived.Lib.AppendStr
import Derived.Lib.UnsafeStr
import Derived.Lib.MakeNoZero
import Derived.Laws.IdiomCopy
namespace Wx
open Go Go.RowKit Go.Proofs
end Wx

namespace Wx
set_option maxRecDepth 100000
open Go Go.RowKit Go.Proofs
set_option maxHeartbeats 2000000 in
theorem xE (w:World) (vx vy:Value) (x y:Rat) (hx:dn w vx x) (hy:dn w vy y) {j k:Nat} (hj:dB j x) (hk:dB k y) (vP:j+k+j+k+1<=10000000):Calls Tryz.prog 66 #[vx,vy] w (gY w (x-y)):=by
 obtain⟨BJ,BK,rfl,je,gH⟩:=id hx
 obtain⟨cH,cJ,rfl,_⟩:=id je
 obtain⟨cI,cK,rfl,_⟩:=id gH
 obtain⟨Lz,LA,rfl,vR,qT⟩:=id hy
 obtain⟨fq,fB,rfl,_⟩:=id vR
 obtain⟨fu,fC,rfl,_⟩:=id qT
 have hx0:=hx
 have hy0:=hy
 clear hx hy je gH vR qT
 have HB:=bx (And.intro hj hk.neg)
 have HQ:=bx (Rat.sub_eq_add_neg x y)
 clear hj hk
 go_enter Tryz.func66,Tryz.ntmps66
 go_wp2_with fail
 obtain⟨w1,e1,o1,b1,s1⟩:=iO w [.bool (decide (x.num<0)),.slice cH (ae ai x.num.natAbs).length cJ,.slice cI (ae ai x.den).length cK] 61
 obtain⟨w2,e2,o2,b2,s2⟩:=iO w1 [.bool (decide (y.num<0)),.slice fq (ae ai y.num.natAbs).length fB,.slice fu (ae ai y.den).length fC] 61
 obtain⟨w3,e3,o3,b3,s3⟩:=iO w2 [.bool false,.slice none 0 0,.slice none 0 0] 61
 rw[e1,e2,e3]
 rw[s1]at o2
 rw[s2,s1]at o3
 have p1:=((o1.gone b2).gone b3)
 have p2:=(o2.gone b3)
 have p3:=o3
 have B0:=((b1.trans (b2.mono b1.size)).trans (b3.mono (b1.trans (b2.mono b1.size)).size))
 have hS:∀w',aY w (w.heap.size+2) 3 61 [(w.heap.size,[.bool (decide (x.num<0)),.slice cH (ae ai x.num.natAbs).length cJ,.slice cI (ae ai x.den).length cK],61),(w.heap.size+1,[.bool (decide (y.num<0)),.slice fq (ae ai y.num.natAbs).length fB,.slice fu (ae ai y.den).length fC],61)] w'->aY w (w.heap.size+2) 3 61 [(w.heap.size,[.bool (decide (x.num<0)),.slice cH (ae ai x.num.natAbs).length cJ,.slice cI (ae ai x.den).length cK],61),(w.heap.size+1,[.bool (decide (y.num<0)),.slice fq (ae ai y.num.natAbs).length fB,.slice fu (ae ai y.den).length fC],61)] w'/\w'.cell? ⟨w.heap.size,0,none⟩=some (.bool (decide (x.num<0)))/\w'.cell? ⟨w.heap.size,1,none⟩=some (.slice cH (ae ai x.num.natAbs).length cJ)/\w'.cell? ⟨w.heap.size,2,none⟩=some (.slice cI (ae ai x.den).length cK)/\w'.cell? ⟨w.heap.size+1,0,none⟩=some (.bool (decide (y.num<0)))/\w'.cell? ⟨w.heap.size+1,1,none⟩=some (.slice fq (ae ai y.num.natAbs).length fB)/\w'.cell? ⟨w.heap.size+1,2,none⟩=some (.slice fu (ae ai y.den).length fC)/\w'.cell? ⟨w.heap.size+2,0,none⟩=some (cv w' ⟨w.heap.size+2,0,none⟩)/\w'.cell? ⟨w.heap.size+2,1,none⟩=some (cv w' ⟨w.heap.size+2,1,none⟩)/\w'.cell? ⟨w.heap.size+2,2,none⟩=some (cv w' ⟨w.heap.size+2,2,none⟩)/\w'.frozen? ⟨w.heap.size+2,0,none⟩=false/\w'.frozen? ⟨w.heap.size+2,1,none⟩=false/\w'.frozen? ⟨w.heap.size+2,2,none⟩=false:=λw' hh=>by
  have r1:=hh.par (p:=(w.heap.size,[.bool (decide (x.num<0)),.slice cH (ae ai x.num.natAbs).length cJ,.slice cI (ae ai x.den).length cK],61)) (by simp)
  have r2:=hh.par (p:=(w.heap.size+1,[.bool (decide (y.num<0)),.slice fq (ae ai y.num.natAbs).length fB,.slice fu (ae ai y.den).length fC],61)) (by simp)
  exact⟨hh,r1.cell (i:=0) rfl,r1.cell (i:=1) rfl,r1.cell (i:=2) rfl,r2.cell (i:=0) rfl,r2.cell (i:=1) rfl,r2.cell (i:=2) rfl,hh.jG (i:=0) (by omega),hh.jG (i:=1) (by omega),hh.jG (i:=2) (by omega),hh.Dm 0,hh.Dm 1,hh.Dm 2⟩
 have hz:aY w (w.heap.size+2) 3 61 [(w.heap.size,[.bool (decide (x.num<0)),.slice cH (ae ai x.num.natAbs).length cJ,.slice cI (ae ai x.den).length cK],61),(w.heap.size+1,[.bool (decide (y.num<0)),.slice fq (ae ai y.num.natAbs).length fB,.slice fu (ae ai y.den).length fC],61)] w3:=⟨B0,by omega,by intro q hq; simp at hq; rcases hq with rfl|rfl; exact⟨by simp,p1⟩; exact⟨by simp,p2⟩,_,rfl,p3,dP⟩
 clear e1 e2 e3 o1 b1 s1 p1 o2 b2 s2 p2 o3 b3 s3 p3
 clear B0
 have hz:=hz.drew
 go_region_held3 (λw'=>aY w (w.heap.size+2) 3 61 [(w.heap.size,[.bool (decide (x.num<0)),.slice cH (ae ai x.num.natAbs).length cJ,.slice cI (ae ai x.den).length cK],61),(w.heap.size+1,[.bool (decide (y.num<0)),.slice fq (ae ai y.num.natAbs).length fB,.slice fu (ae ai y.den).length fC],61)] w'/\w'.cell? ⟨w.heap.size,0,none⟩=some (.bool (decide (x.num<0)))/\w'.cell? ⟨w.heap.size,1,none⟩=some (.slice cH (ae ai x.num.natAbs).length cJ)/\w'.cell? ⟨w.heap.size,2,none⟩=some (.slice cI (ae ai x.den).length cK)/\w'.cell? ⟨w.heap.size+1,0,none⟩=some (.bool (decide (y.num<0)))/\w'.cell? ⟨w.heap.size+1,1,none⟩=some (.slice fq (ae ai y.num.natAbs).length fB)/\w'.cell? ⟨w.heap.size+1,2,none⟩=some (.slice fu (ae ai y.den).length fC)/\w'.cell? ⟨w.heap.size+2,0,none⟩=some (cv w' ⟨w.heap.size+2,0,none⟩)/\w'.cell? ⟨w.heap.size+2,1,none⟩=some (cv w' ⟨w.heap.size+2,1,none⟩)/\w'.cell? ⟨w.heap.size+2,2,none⟩=some (cv w' ⟨w.heap.size+2,2,none⟩)/\w'.frozen? ⟨w.heap.size+2,0,none⟩=false/\w'.frozen? ⟨w.heap.size+2,1,none⟩=false/\w'.frozen? ⟨w.heap.size+2,2,none⟩=false)
  (first|exact hS _ hz|exact hS _ (aY.Fv hz))
  (first
   |(go_at_call 103; (with_reducible refine Calls.mono (EI _ _ y (hy0.below hz.b)) ?_); rintro e wz ⟨vn,rfl,hn,hb⟩; have hz:=aY.call (And.intro hz trivial) hb)
   |(go_at_call 51; (with_reducible refine Calls.mono (EB _ _ _ x (-y) (hx0.below hz.b) hn HB.out.1 HB.out.2 vP) ?_); rintro e wz ⟨vr,rfl,hr,hb⟩; have hz:=aY.call (And.intro hz trivial) hb; rw[<-HQ.out]at hr; obtain⟨Sl,Sm,rfl,MX,hrb⟩:=id hr; obtain⟨Ie,Iu,rfl,_⟩:=id MX; obtain⟨Ig,Iv,rfl,_⟩:=id hrb))
 all_goals (
  go_wp2
  obtain⟨wf,HW,ho,hB,hN⟩:=hz.fin [.bool (decide ((x-y).num<0)),.slice Ie (ae ai (x-y).num.natAbs).length Iu,.slice Ig (ae ai (x-y).den).length Iv] rfl dP
  simp only[cS,Nat.reduceAdd]at HW
  (try rw[HW])
  (try simp only[Exit.inBlock,Exit.then])
  have f0:=ho.cell (i:=0) rfl
  have f1:=ho.cell (i:=1) rfl
  have f2:=ho.cell (i:=2) rfl
  refine bodyPost_ret (by simp[results,Tryz.results66,go_sem,f0,f1,f2]; try rfl) rfl ?_
  exact⟨_,rfl,hr.into hN,hB⟩)
end Wx

namespace Wx
set_option maxRecDepth 100000
set_option maxHeartbeats 1000000
open Go Go.RowKit Go.Proofs
theorem Hy (x y:Rat):ou (x-y)=lJ x y:=by rw[Hx]; exact DO x y
theorem ED (w:World) (vx vy:Value) (x y:Rat) (hx:dn w vx x) (hy:dn w vy y) {j k:Nat} (hj:dB j x) (hk:dB k y) (vP:j+k+j+k+1<=10000000):Calls Tryz.prog 41 #[vx,vy] w (eC w (.int .i64 (lJ x y))):=by
 obtain⟨BJ,BK,rfl,je,gH⟩:=id hx
 obtain⟨cH,cJ,rfl,_⟩:=id je
 obtain⟨cI,cK,rfl,_⟩:=id gH
 obtain⟨Lz,LA,rfl,vR,qT⟩:=id hy
 obtain⟨fq,fB,rfl,_⟩:=id vR
 obtain⟨fu,fC,rfl,_⟩:=id qT
 have hx0:=hx
 have hy0:=hy
 clear hx hy je gH vR qT
 have HB:=bx (And.intro hj hk)
 clear hj hk
 go_enter Tryz.func41,Tryz.ntmps41
 go_wp2_with fail
 obtain⟨w1,e1,oX,b1,s1⟩:=iO w [.bool (decide (x.num<0)),.slice cH (ae ai x.num.natAbs).length cJ,.slice cI (ae ai x.den).length cK] 61
 rw[e1]
 clear e1
 replace hx0:=hx0.below b1
 replace hy0:=hy0.below b1
 have B:=b1
 clear b1
 obtain⟨w2,e2,oY,b2,s2⟩:=iO w1 [.bool (decide (y.num<0)),.slice fq (ae ai y.num.natAbs).length fB,.slice fu (ae ai y.den).length fC] 61
 rw[e2]
 rw[s1]at oY
 clear e2
 replace hx0:=hx0.below b2
 replace hy0:=hy0.below b2
 replace oX:=oX.gone b2
 replace B:=B.trans (b2.mono B.size)
 clear b2
 refine Calls.mono (xE _ _ _ x y hx0 hy0 HB.out.1 HB.out.2 vP) ?_
 rintro e w3 ⟨vr,rfl,hr,b3⟩
 replace hx0:=hx0.below b3
 replace hy0:=hy0.below b3
 replace oX:=oX.gone b3
 replace oY:=oY.gone b3
 replace B:=B.trans (b3.mono B.size)
 clear b3
 go_wp2_with fail
 have hc:=CF _ _ (x-y) hr
 rw[Hy]at hc
 refine Calls.mono (hc) ?_
 rintro e w4 ⟨rfl,b4⟩
 replace hx0:=hx0.below b4
 replace hy0:=hy0.below b4
 replace oX:=oX.gone b4
 replace oY:=oY.gone b4
 replace hr:=hr.below b4
 replace B:=B.trans (b4.mono B.size)
 clear b4
 clear hc
 go_wp2
 go_ret
 exact⟨rfl,B⟩
end Wx

namespace Wx
set_option maxRecDepth 100000
set_option maxHeartbeats 1000000
open Go Go.RowKit Go.Proofs
def bt (n:Nat):List Nat:=((ae 10 n).map (·+48)).reverse
theorem iI:bt 0=[]:=rfl
variable {n:Nat}
theorem mM (h:0<n):bt n=bt (n/10)++[n%10+48]:=by
 unfold bt
 rw[eE (by omega) h]
 simp
theorem jY {k:Nat} (h:n<10^k):(bt n).length<=k:=by
 unfold bt
 rw[List.length_reverse,List.length_map]
 exact eD (by omega) h
theorem jg (h:0<n):0<(bt n).length:=by
 rw[mM h]; simp
def strOf (l:List Nat):ByteArray:=⟨(l.map UInt8.ofNat).toArray⟩
theorem ye {w:World} {g o c:Nat} {l:List Nat} (hw:Wf 256 l) (h:∀j,j<l.length->w.cell? ⟨g,o+j,none⟩=some (.int .u8 (l.getD j 0:Nat))) (n:Nat) (hn:n=l.length):
  (convert 133 9 (.slice (some ⟨g,o,none⟩) n c)).run Tryz.prog w=.ok (.string (strOf l)) w:=by
 subst hn
 have hl:l.length=(l.map UInt8.ofNat).length:=by simp
 rw[hl]
 refine run_convert_bytes_back w 133 9 5 ⟨g,o,none⟩ c (l.map UInt8.ofNat) Tryz.underlying133 Tryz.underlying5 Tryz.underlying9 (λj hj=>?_)
 rw[<-hl]at hj
 have h1:=h j hj
 have h2:=hw.get hj
 rw[List.getD_eq_getElem?_getD,List.getElem?_eq_getElem hj,Option.getD_some]at h1
 rw[show(⟨g,o,none⟩:Addr).add j=⟨g,o+j,none⟩ by simp[Addr.add],h1,List.getElem_map,UInt8.toNat_ofNat_of_lt' h2]
theorem wC (w:World) (n:Nat) (hn:n<b64):Calls Tryz.prog 97 #[.int .u64 (n:Int)] w (eC w (.string (strOf (bt n)))):=by
 have HL:=bx (jY (n:=n) (k:=20) (Nat.lt_of_lt_of_le hn (by unfold b64; decide)))
 have HN:=bx hn
 clear hn
 go_enter Tryz.func97,Tryz.ntmps97
 go_wp2_with fail
 have hrow:=Row.new w .u8 161 (List.replicate 20 0)
 have hb0:Below w.heap.size w (w.alloc (.cells (dX .u8 (List.replicate 20 0)).toArray 161)):=Below.alloc (Below.refl _ _) (Nat.le_refl _) _
 change (Code.wp _ _ _ _ (w.alloc (.cells (dX .u8 (List.replicate 20 0)).toArray 161)))
 generalize w.alloc (.cells (dX .u8 (List.replicate 20 0)).toArray 161)=w1 at *
 go_loopw [0,4] (λs0 s4 wr=>∃(m at_:Nat) (L:List Nat),s0=.int .u64 (m:Int)/\s4=.int .i64 (at_:Int)/\at_<=20/\Bx (L.length=20)/\Wf 256 L/\Row wr .u8 161 w.heap.size L/\Below w.heap.size w wr/\Bx (bt n=bt m++L.drop at_)/\Bx (m<b64)) (λs0 _ _=>(intOf s0).toNat)
 case atStart=>exact⟨n,20,List.replicate 20 0,rfl,rfl,Nat.le_refl _,bx (by simp),Wf.replicate (by omega) _,hrow,hb0,bx (by simp),HN⟩
 case round=>
  clear hrow hb0
  obtain⟨m,at_,L,rfl,rfl,hat,Lf,Ej,hr,hbl,HD,HM⟩:=hrel
  rcases Nat.eq_zero_or_pos m with rfl|hm0
  ·have hai:(at_:Int)<=20:=by omega
   have Ts:(0:Int)<=(at_:Int):=by omega
   have hu:=Tryz.underlying161
   have hdn:bt n=L.drop at_:=HD.out
   have hwd:Wf 256 (bt n):=by rw[hdn]; exact Ej.drop _
   have Lo:20-at_=(bt n).length:=by rw[hdn,List.length_drop,Lf.out]
   have hcs:∀j,j<(bt n).length->wr.cell? ⟨w.heap.size,at_+j,none⟩=some (.int .u8 ((bt n).getD j 0:Nat)):=λj hj=>by
    rw[hr.cell (i:=at_+j) (by rw[Lf.out]; omega),hdn]
    simp[List.getD_eq_getElem?_getD]
   have hcv:=ye (c:=20-at_) hwd hcs _ Lo
   have SB:=bx Lo
   clear hdn hwd hcs Lo HD
   by_cases Rv:at_=20
   ·subst Rv
    have TE:=ye (w:=wr) (g:=w.heap.size) (o:=0) (c:=0) (Wf.nil 256) (λj hj=>absurd hj (by simp)) 0 rfl
    have hE:bt n=[]:=List.eq_nil_of_length_eq_zero (by have:=SB.out; omega)
    clear hcv
    go_wp2
    go_ret
    rw[hE]
    exact⟨rfl,hbl⟩
   ·have hne:¬20=at_:=λh=>Rv h.symm
    go_wp2
    go_ret
    exact⟨rfl,hbl⟩
  ·have Tt:1<=at_:=by
    have h1:=congrArg List.length HD.out
    have h2:=jg hm0
    have h3:=HL.out
    have h4:=Lf.out
    rw[List.length_append,List.length_drop]at h1
    omega
   obtain⟨k,rfl⟩:∃k,at_=k+1:=⟨at_-1,by omega⟩
   obtain⟨vo,AW,Dh⟩:=hr.get (i:=k) (by have:=Lf.out; omega)
   have sw:=hr.frozen k
   have lQ:(k:Int)<20:=by omega
   have yx:(0:Int)<=(k:Int):=by omega
   have MP:(1:Int)<=(m:Int):=by omega
   have hw:IntKind.u64.wrap ((m:Int)/10)=((m/10:Nat):Int):=by
    have:=HM.out
    rw[wrap_u64 (by omega) (by unfold b64 at this; omega)]; omega
   have hv:48+(m:Int)%10=((m%10+48:Nat):Int):=by omega
   have HW:=bx hw
   have HV:=bx hv
   clear hw hv
   go_wp2_with fail
   rw[HW.out,HV.out]
   refine⟨⟨m/10,k,L.set k (m%10+48),rfl,rfl,by omega,bx (by rw[List.length_set]; exact Lf.out),Ej.set (by omega),hr.set k _,hbl.setCell (Nat.le_refl _) _,bx ?_,bx (Nat.lt_of_le_of_lt (Nat.div_le_self _ _) HM.out)⟩,by simp[intOf]; omega⟩
   rw[HD.out,mM hm0,ik (by have:=Lf.out; omega),List.append_assoc]
   rfl
end Wx

namespace Wx
open Go Go.RowKit Go.Proofs
theorem bM (l:List Nat):(strOf l).size=l.length:=by simp[strOf,ByteArray.size]
end Wx

namespace Wx
open Go Go.RowKit Go.Proofs
end Wx

namespace Wx
open Go Go.RowKit Go.Proofs
end Wx

namespace Wx
set_option maxRecDepth 100000
set_option maxHeartbeats 1000000
open Go Go.RowKit Go.Proofs
theorem tX:(Tryz.prog.info? 135).map (·.size)=some 2:=by kernel_rfl
theorem liesBuilder:liesAt Tryz.prog Tryz.prog.depth 135 (2/Tryz.prog.cellsOf 135) 0 135 1=true:=by kernel_rfl
theorem infoByte:(Tryz.prog.info? 5).map (λi=>(i.zero,i.size,i.bytes))=some (some (.int .u8 0),1,1):=by kernel_rfl
theorem qx (b:Nat) (w:World) (h0:w.cell? ⟨b,0,none⟩=some (.pointer (some ⟨b,0,none⟩))):
  Calls Tryz.prog 127 #[.pointer (some ⟨b,0,none⟩)] w λe w'=>e=.returned (.tuple #[])/\w'=w:=by
 obtain⟨j,hj,_⟩:=Option.map_eq_some_iff.1 tX
 go_enter Tryz.func127,Tryz.ntmps127
 go_wp2
 rw[Lib.run_neq_ptr_same w _ Tryz.underlying132 hj]
 go_wp2
 go_end0
 exact⟨rfl,rfl⟩
theorem oW (b:Nat) (w:World) (h0:w.cell? ⟨b,0,none⟩=some (.pointer none)) (hsh:w.shape? b=some (135,2)) (hfz:w.frozen? ⟨b,0,none⟩=false):
  Calls Tryz.prog 127 #[.pointer (some ⟨b,0,none⟩)] w λe w'=>e=.returned (.tuple #[])/\w'=w.setCell ⟨b,0,none⟩ (.pointer (some ⟨b,0,none⟩)):=by
 obtain⟨j,hj,N8⟩:=Option.map_eq_some_iff.1 tX
 go_enter Tryz.func127,Tryz.ntmps127
 go_wp2
 rw[Lib.run_to_unsafe w ⟨b,0,none⟩ Tryz.underlying132 Tryz.underlying183 hj (by rw[N8]; decide) hsh (Nat.zero_lt_succ 1)]
 simp only[Result.andThen]
 rw[Oper.upon_value]
 go_wp2
 rw[run_callFunc_extern Tryz.func149 (by kernel_rfl) (by kernel_rfl) (by kernel_rfl) (e:=Extern.AbiNoEscape.same) (by kernel_rfl)]
 rw[Lib.run_noEscape]
 simp only[Result.andThen]
 rw[Oper.upon_value]
 go_wp2
 rw[Lib.run_from_unsafe w ⟨b,0,none⟩ Tryz.underlying183 Tryz.underlying132 hj hsh liesBuilder]
 simp only[Result.andThen]
 rw[Oper.upon_value]
 go_wp2
 go_end0
 exact⟨rfl,rfl⟩
theorem sC (B b:Nat) (bs:List Value) (w:World) (h:Lib.IsBuilder 135 5 B b bs w):
  Calls Tryz.prog 127 #[.pointer (some ⟨b,0,none⟩)] w λe w'=>e=.returned (.tuple #[])/\(Lib.BuilderAt 135 5 B b (.pointer (some ⟨b,0,none⟩)) bs w'/\Below B w w'):=by
 rcases h with h|h
 ·refine(oW b w h.cell0 h.shape h.frozen0).mono ?_
  rintro e w' ⟨rfl,rfl⟩
  exact⟨rfl,h.used _,(Below.refl B w).setCell (p:=⟨b,0,none⟩) h.1 _⟩
 ·refine(qx b w h.cell0).mono ?_
  rintro e w' ⟨rfl,rfl⟩
  exact⟨rfl,h,Below.refl B _⟩
set_option maxHeartbeats 2000000 in
theorem pA (B b:Nat) (bs:List Value) (s:ByteArray) (w:World) (h:Lib.IsBuilder 135 5 B b bs w) (hlen:bs.length+s.size<=140737488355328) (hBw:B<=w.heap.size):
  Calls Tryz.prog 99 #[.pointer (some ⟨b,0,none⟩),.string s] w λe w'=>e=.returned (.tuple #[.int .i64 s.size,.nilIface])/\(Lib.BuilderAt 135 5 B b (.pointer (some ⟨b,0,none⟩)) (bs++Lib.strCells s) w'/\Below B w w'):=by
 obtain⟨i0,hi,hz0,hz1,hz2⟩:=info_parts infoByte
 go_enter Tryz.func99,Tryz.ntmps99
 go_wp2_with (go_at_call 127; refine(sC B b bs _ h).mono ?_)
 rintro e w1 ⟨rfl,h1,hb1⟩
 obtain⟨hB,v,hbk,hown,hne⟩:=h1
 have c0:w1.cell? ⟨b,0,none⟩=some (.pointer (some ⟨b,0,none⟩)):=by rw[Lib.cell_of_heap hbk]; rfl
 have c1:w1.cell? ⟨b,1,none⟩=some v:=by rw[Lib.cell_of_heap hbk]; rfl
 go_wp2_with (at_builtin; refine Lib.wpList_append_own_string _ rfl _ _ 133 9 rfl B 5 i0 Tryz.underlying133 Tryz.underlying9 hi hz0 hz1 hz2 _ _ _ rfl hown s rfl ?c3 ?c4 ?c5 ?_)
 case c3=>unfold maxLen; omega
 case c4=>omega
 case c5=>have:=hb1.size; omega
 intro v' w2 hown' hgrow _
 have hlt:b<w1.heap.size:=by
  rcases Nat.lt_or_ge b w1.heap.size with h'|h'
  ·exact h'
  ·simp[Array.getElem?_eq_none h']at hbk
 have hb2:w2.heap[b]?=some (.cells #[.pointer (some ⟨b,0,none⟩),v] 135 (0,0)):=by
  rw[hgrow.block b hlt (λe=>hne e.symm)]
  exact hbk
 have d0:w2.cell? ⟨b,0,none⟩=some (.pointer (some ⟨b,0,none⟩)):=by rw[Lib.cell_of_heap hb2]; rfl
 have d1:w2.cell? ⟨b,1,none⟩=some v:=by rw[Lib.cell_of_heap hb2]; rfl
 have f1:w2.frozen? ⟨b,1,none⟩=false:=Lib.frozen_of_heap hb2 1
 obtain⟨ao,n',cap,rfl⟩:∃ao n' cap,v'=.slice ao n' cap:=by
  rcases hown'.2 with⟨hv,_⟩|⟨g,cap,cur,hv,_⟩
  ·exact⟨_,_,_,hv⟩
  ·exact⟨_,_,_,hv⟩
 go_wp2
 go_ret2
 refine⟨rfl,?_,?_⟩
 ·exact Lib.BuilderAt.put (T:=135) (e:=5) hB hb2 (bs':=bs++Lib.strCells s) (by simpa [Lib.strCells_length] using hown') (by decide)
 ·exact(hb1.grown hgrow (by have:=hb1.size; omega) (λk hk=>(hown.lt k hk).1)).setCell (p:=⟨b,1,none⟩) hB _
end Wx
