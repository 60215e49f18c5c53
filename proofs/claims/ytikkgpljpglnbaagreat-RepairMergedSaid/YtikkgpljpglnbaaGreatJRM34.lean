import Derived.Test.YtikkgpljpglnbaaGreatJRM24
import Derived.Laws.IdiomStrings
import Derived.Maps.AppendAt
import Derived.Lib.IndexLaws
import Derived.Lib.Strings
import Derived.WalkSpells
import Derived.Lib.Slices
import Derived.Lib.Walk
import Derived.Lib.Builder
import Derived.Lib.AppendStr
import Derived.Lib.UnsafeStr
import Derived.Lib.MakeNoZero
import Derived.Laws.IdiomCopy
namespace Wx
open Go Go.RowKit Go.Proofs
end Wx

namespace Wx
open Go Go.RowKit Go.Proofs
end Wx

namespace Wx
open Go Go.RowKit Go.Proofs
end Wx

namespace Wx
open Go Go.RowKit Go.Proofs
end Wx

namespace Wx
open Go Go.RowKit Go.Proofs
end Wx

namespace Wx
open Go Go.RowKit Go.Proofs
end Wx

namespace Wx
open Go Go.RowKit Go.Proofs
end Wx

namespace Wx
open Go Go.RowKit Go.Proofs
set_option linter.unusedVariables false
end Wx

namespace Wx
open Go Go.RowKit Go.Proofs
end Wx

namespace Wx
open Go Go.RowKit Go.Proofs
end Wx

namespace Wx
open Go Go.RowKit Go.Proofs
end Wx

namespace Wx
set_option maxRecDepth 100000
set_option maxHeartbeats 1000000
open Go Go.RowKit Go.Proofs
def bw (n:Nat):List Nat:=((af 10 n).map (·+48)).reverse
theorem jq:bw 0=[]:=rfl
variable {n:Nat}
theorem nM (h:0<n):bw n=bw (n/10)++[n%10+48]:=by
 unfold bw
 rw[fh (by omega) h]
 simp
theorem kP {k:Nat} (h:n<10^k):(bw n).length<=k:=by
 unfold bw
 rw[List.length_reverse,List.length_map]
 exact fg (by omega) h
theorem jK (h:0<n):0<(bw n).length:=by
 rw[nM h]; simp
def strOf (l:List Nat):ByteArray:=⟨(l.map UInt8.ofNat).toArray⟩
theorem zM {w:World} {g o c:Nat} {l:List Nat} (hw:Wf 256 l) (h:∀j,j<l.length->w.cell? ⟨g,o+j,none⟩=some (.int .u8 (l.getD j 0:Nat))) (n:Nat) (hn:n=l.length):
  (convert 93 9 (.slice (some ⟨g,o,none⟩) n c)).run Tryz.prog w=.ok (.string (strOf l)) w:=by
 subst hn
 have hl:l.length=(l.map UInt8.ofNat).length:=by simp
 rw[hl]
 refine run_convert_bytes_back w 93 9 5 ⟨g,o,none⟩ c (l.map UInt8.ofNat) Tryz.underlying93 Tryz.underlying5 Tryz.underlying9 (λj hj=>?_)
 rw[<-hl]at hj
 have h1:=h j hj
 have h2:=hw.get hj
 rw[List.getD_eq_getElem?_getD,List.getElem?_eq_getElem hj,Option.getD_some]at h1
 rw[show(⟨g,o,none⟩:Addr).add j=⟨g,o+j,none⟩ by simp[Addr.add],h1,List.getElem_map,UInt8.toNat_ofNat_of_lt' h2]
theorem xZ (w:World) (n:Nat) (hn:n<b64):Calls Tryz.prog 60 #[.int .u64 (n:Int)] w (eZ w (.string (strOf (bw n)))):=by
 have HL:=bx (kP (n:=n) (k:=20) (Nat.lt_of_lt_of_le hn (by unfold b64; decide)))
 have HN:=bx hn
 clear hn
 go_enter Tryz.func60,Tryz.ntmps60
 go_wp2_with fail
 have hrow:=Row.new w .u8 114 (List.replicate 20 0)
 have hb0:Below w.heap.size w (w.alloc (.cells (fo .u8 (List.replicate 20 0)).toArray 114)):=Below.alloc (Below.refl _ _) (Nat.le_refl _) _
 change (Code.wp _ _ _ _ (w.alloc (.cells (fo .u8 (List.replicate 20 0)).toArray 114)))
 generalize w.alloc (.cells (fo .u8 (List.replicate 20 0)).toArray 114)=w1 at *
 go_loopw [0,4] (λs0 s4 wr=>∃(m at_:Nat) (L:List Nat),s0=.int .u64 (m:Int)/\s4=.int .i64 (at_:Int)/\at_<=20/\Bx (L.length=20)/\Wf 256 L/\Row wr .u8 114 w.heap.size L/\Below w.heap.size w wr/\Bx (bw n=bw m++L.drop at_)/\Bx (m<b64)) (λs0 _ _=>(RowKit.intOf s0).toNat)
 case atStart=>exact⟨n,20,List.replicate 20 0,rfl,rfl,Nat.le_refl _,bx (by simp),Wf.replicate (by omega) _,hrow,hb0,bx (by simp),HN⟩
 case round=>
  clear hrow hb0
  obtain⟨m,at_,L,rfl,rfl,hat,Np,FJ,hr,hbl,HD,HM⟩:=hrel
  rcases Nat.eq_zero_or_pos m with rfl|hm0
  ·have hai:(at_:Int)<=20:=by omega
   have V0:(0:Int)<=(at_:Int):=by omega
   have hu:=Tryz.underlying114
   have hdn:bw n=L.drop at_:=HD.out
   have hwd:Wf 256 (bw n):=by rw[hdn]; exact FJ.drop _
   have NB:20-at_=(bw n).length:=by rw[hdn,List.length_drop,Np.out]
   have hcs:∀j,j<(bw n).length->wr.cell? ⟨w.heap.size,at_+j,none⟩=some (.int .u8 ((bw n).getD j 0:Nat)):=λj hj=>by
    rw[hr.cell (i:=at_+j) (by rw[Np.out]; omega),hdn]
    simp[List.getD_eq_getElem?_getD]
   have hcv:=zM (c:=20-at_) hwd hcs _ NB
   have Vb:=bx NB
   clear hdn hwd hcs NB HD
   by_cases Ua:at_=20
   ·subst Ua
    have Wh:=zM (w:=wr) (g:=w.heap.size) (o:=0) (c:=0) (Wf.nil 256) (λj hj=>absurd hj (by simp)) 0 rfl
    have hE:bw n=[]:=List.eq_nil_of_length_eq_zero (by have:=Vb.out; omega)
    clear hcv
    go_wp2
    go_ret
    rw[hE]
    exact⟨rfl,hbl⟩
   ·have hne:¬20=at_:=λh=>Ua h.symm
    go_wp2
    go_ret
    exact⟨rfl,hbl⟩
  ·have V3:1<=at_:=by
    have h1:=congrArg List.length HD.out
    have h2:=jK hm0
    have h3:=HL.out
    have h4:=Np.out
    rw[List.length_append,List.length_drop]at h1
    omega
   obtain⟨k,rfl⟩:∃k,at_=k+1:=⟨at_-1,by omega⟩
   obtain⟨vo,Hv,Ka⟩:=hr.get (i:=k) (by have:=Np.out; omega)
   have Cm:=hr.frozen k
   have nD:(k:Int)<20:=by omega
   have lZ:(0:Int)<=(k:Int):=by omega
   have IX:(1:Int)<=(m:Int):=by omega
   have hw:IntKind.u64.wrap ((m:Int)/10)=((m/10:Nat):Int):=by
    have:=HM.out
    rw[wrap_u64 (by omega) (by unfold b64 at this; omega)]; omega
   have hv:48+(m:Int)%10=((m%10+48:Nat):Int):=by omega
   have HW:=bx hw
   have HV:=bx hv
   clear hw hv
   go_wp2_with fail
   rw[HW.out,HV.out]
   refine⟨⟨m/10,k,L.set k (m%10+48),rfl,rfl,by omega,bx (by rw[List.length_set]; exact Np.out),FJ.set (by omega),hr.set k _,hbl.setCell (Nat.le_refl _) _,bx ?_,bx (Nat.lt_of_le_of_lt (Nat.div_le_self _ _) HM.out)⟩,by simp[RowKit.intOf]; omega⟩
   rw[HD.out,nM hm0,mD (by have:=Np.out; omega),List.append_assoc]
   rfl
end Wx

namespace Wx
open Go Go.RowKit Go.Proofs
theorem bP (l:List Nat):(strOf l).size=l.length:=by simp[strOf,ByteArray.size]
end Wx

namespace Wx
open Go Go.RowKit Go.Proofs
end Wx

namespace Wx
open Go Go.RowKit Go.Proofs
end Wx

namespace Wx
set_option maxRecDepth 100000
set_option maxHeartbeats 1000000
open Go Go.RowKit Go.Proofs
theorem vH:(Tryz.prog.info? 95).map (·.size)=some 2:=by kernel_rfl
theorem liesBuilder:liesAt Tryz.prog Tryz.prog.depth 95 (2/Tryz.prog.cellsOf 95) 0 95 1=true:=by kernel_rfl
theorem infoByte:(Tryz.prog.info? 5).map (λi=>(i.zero,i.size,i.bytes))=some (some (.int .u8 0),1,1):=by kernel_rfl
theorem rX (b:Nat) (w:World) (h0:w.cell? ⟨b,0,none⟩=some (.pointer (some ⟨b,0,none⟩))):
  Calls Tryz.prog 85 #[.pointer (some ⟨b,0,none⟩)] w λe w'=>e=.returned (.tuple #[])/\w'=w:=by
 obtain⟨j,hj,_⟩:=Option.map_eq_some_iff.1 vH
 go_enter Tryz.func85,Tryz.ntmps85
 go_wp2
 rw[Lib.run_neq_ptr_same w _ Tryz.underlying92 hj]
 go_wp2
 go_end0
 exact⟨rfl,rfl⟩
theorem qI (b:Nat) (w:World) (h0:w.cell? ⟨b,0,none⟩=some (.pointer none)) (hsh:w.shape? b=some (95,2)) (hfz:w.frozen? ⟨b,0,none⟩=false):
  Calls Tryz.prog 85 #[.pointer (some ⟨b,0,none⟩)] w λe w'=>e=.returned (.tuple #[])/\w'=w.setCell ⟨b,0,none⟩ (.pointer (some ⟨b,0,none⟩)):=by
 obtain⟨j,hj,QA⟩:=Option.map_eq_some_iff.1 vH
 go_enter Tryz.func85,Tryz.ntmps85
 go_wp2
 rw[Lib.run_to_unsafe w ⟨b,0,none⟩ Tryz.underlying92 Tryz.underlying135 hj (by rw[QA]; decide) hsh (Nat.zero_lt_succ 1)]
 simp only[Result.andThen]
 rw[Oper.upon_value]
 go_wp2
 rw[run_callFunc_extern Tryz.func104 (by kernel_rfl) (by kernel_rfl) (by kernel_rfl) (e:=Extern.AbiNoEscape.same) (by kernel_rfl)]
 rw[Lib.run_noEscape]
 simp only[Result.andThen]
 rw[Oper.upon_value]
 go_wp2
 rw[Lib.run_from_unsafe w ⟨b,0,none⟩ Tryz.underlying135 Tryz.underlying92 hj hsh liesBuilder]
 simp only[Result.andThen]
 rw[Oper.upon_value]
 go_wp2
 go_end0
 exact⟨rfl,rfl⟩
theorem uh (B b:Nat) (bs:List Value) (w:World) (h:Lib.IsBuilder 95 5 B b bs w):
  Calls Tryz.prog 85 #[.pointer (some ⟨b,0,none⟩)] w λe w'=>e=.returned (.tuple #[])/\(Lib.BuilderAt 95 5 B b (.pointer (some ⟨b,0,none⟩)) bs w'/\Below B w w'):=by
 rcases h with h|h
 ·refine(qI b w h.cell0 h.shape h.frozen0).mono ?_
  rintro e w' ⟨rfl,rfl⟩
  exact⟨rfl,h.used _,(Below.refl B w).setCell (p:=⟨b,0,none⟩) h.1 _⟩
 ·refine(rX b w h.cell0).mono ?_
  rintro e w' ⟨rfl,rfl⟩
  exact⟨rfl,h,Below.refl B _⟩
set_option maxHeartbeats 2000000 in
theorem qR (B b:Nat) (bs:List Value) (s:ByteArray) (w:World) (h:Lib.IsBuilder 95 5 B b bs w) (hlen:bs.length+s.size<=140737488355328) (hBw:B<=w.heap.size):
  Calls Tryz.prog 62 #[.pointer (some ⟨b,0,none⟩),.string s] w λe w'=>e=.returned (.tuple #[.int .i64 s.size,.nilIface])/\(Lib.BuilderAt 95 5 B b (.pointer (some ⟨b,0,none⟩)) (bs++Lib.strCells s) w'/\Below B w w'):=by
 obtain⟨i0,hi,hz0,hz1,hz2⟩:=info_parts infoByte
 go_enter Tryz.func62,Tryz.ntmps62
 go_wp2_with (go_at_call 85; refine(uh B b bs _ h).mono ?_)
 rintro e w1 ⟨rfl,h1,hb1⟩
 obtain⟨hB,v,hbk,hown,hne⟩:=h1
 have c0:w1.cell? ⟨b,0,none⟩=some (.pointer (some ⟨b,0,none⟩)):=by rw[Lib.cell_of_heap hbk]; rfl
 have c1:w1.cell? ⟨b,1,none⟩=some v:=by rw[Lib.cell_of_heap hbk]; rfl
 go_wp2_with (at_builtin; refine Lib.wpList_append_own_string _ rfl _ _ 93 9 rfl B 5 i0 Tryz.underlying93 Tryz.underlying9 hi hz0 hz1 hz2 _ _ _ rfl hown s rfl ?c3 ?c4 ?c5 ?_)
 case c3=>unfold maxLen; omega
 case c4=>omega
 case c5=>have:=hb1.size; omega
 intro v' w2 hown' hgrow _
 have hlt:b<w1.heap.size:=by
  rcases Nat.lt_or_ge b w1.heap.size with h'|h'
  ·exact h'
  ·simp[Array.getElem?_eq_none h']at hbk
 have hb2:w2.heap[b]?=some (.cells #[.pointer (some ⟨b,0,none⟩),v] 95 (0,0)):=by
  rw[hgrow.block b hlt (λe=>hne e.symm)]
  exact hbk
 have d0:w2.cell? ⟨b,0,none⟩=some (.pointer (some ⟨b,0,none⟩)):=by rw[Lib.cell_of_heap hb2]; rfl
 have d1:w2.cell? ⟨b,1,none⟩=some v:=by rw[Lib.cell_of_heap hb2]; rfl
 have f1:w2.frozen? ⟨b,1,none⟩=false:=Lib.frozen_of_heap hb2 1
 obtain⟨ao,n',cap,rfl⟩:∃ao n' cap,v'=.slice ao n' cap:=by
  rcases hown'.2 with⟨hv,_⟩|⟨g,cap,cur,hv,_⟩
  ·exact⟨_,_,_,hv⟩
  ·exact⟨_,_,_,hv⟩
 go_wp2
 go_ret2
 refine⟨rfl,?_,?_⟩
 ·exact Lib.BuilderAt.put (T:=95) (e:=5) hB hb2 (bs':=bs++Lib.strCells s) (by simpa [Lib.strCells_length] using hown') (by decide)
 ·exact(hb1.grown hgrow (by have:=hb1.size; omega) (λk hk=>(hown.lt k hk).1)).setCell (p:=⟨b,1,none⟩) hB _
end Wx
