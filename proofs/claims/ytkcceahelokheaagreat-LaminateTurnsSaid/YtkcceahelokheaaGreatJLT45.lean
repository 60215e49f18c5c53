import Derived.Laws.IdiomStrings
import Derived.Maps.AppendAt
import Derived.Lib.IndexLaws
import Derived.Lib.Strings
import Derived.WalkSpells
import Derived.Lib.Slices
import Derived.Lib.Walk
import Derived.Lib.Builder
import Derived.Lib.AppendStr
import Derived.Lib.UnsafeStr
import Derived.Lib.MakeNoZero
import Derived.Laws.IdiomCopy
import Derived.Lib.Repeat
import Derived.Test.YtkcceahelokheaaGreatJLT10
namespace Wx
set_option maxRecDepth 100000
set_option maxHeartbeats 1000000
open Go Go.RowKit Go.Proofs
def cw (n:Nat):List Nat:=((af 10 n).map (·+48)).reverse
theorem oD:cw 0=[]:=rfl
variable {n:Nat}
theorem um (h:0<n):cw n=cw (n/10)++[n%10+48]:=by
 unfold cw
 rw[jA (by omega) h]
 simp
theorem qz {k:Nat} (h:n<10^k):(cw n).length<=k:=by
 unfold cw
 rw[List.length_reverse,List.length_map]
 exact jz (by omega) h
theorem pA (h:0<n):0<(cw n).length:=by
 rw[um h]; simp
def strOf (l:List Nat):ByteArray:=⟨(l.map UInt8.ofNat).toArray⟩
theorem Gi {w:World} {g o c:Nat} {l:List Nat} (hw:Wf 256 l) (h:∀j,j<l.length->w.cell? ⟨g,o+j,none⟩=some (.int .u8 (l.getD j 0:Nat))) (n:Nat) (hn:n=l.length):
  (convert 237 9 (.slice (some ⟨g,o,none⟩) n c)).run Tryz.prog w=.ok (.string (strOf l)) w:=by
 subst hn
 have hl:l.length=(l.map UInt8.ofNat).length:=by simp
 rw[hl]
 refine run_convert_bytes_back w 237 9 5 ⟨g,o,none⟩ c (l.map UInt8.ofNat) Tryz.underlying237 Tryz.underlying5 Tryz.underlying9 (λj hj=>?_)
 rw[<-hl]at hj
 have h1:=h j hj
 have h2:=hw.get hj
 rw[List.getD_eq_getElem?_getD,List.getElem?_eq_getElem hj,Option.getD_some]at h1
 rw[show(⟨g,o,none⟩:Addr).add j=⟨g,o+j,none⟩ by simp[Addr.add],h1,List.getElem_map,UInt8.toNat_ofNat_of_lt' h2]
theorem EN (w:World) (n:Nat) (hn:n<b64):Calls Tryz.prog 152 #[.int .u64 (n:Int)] w (fU w (.string (strOf (cw n)))):=by
 have HL:=bx (qz (n:=n) (k:=20) (Nat.lt_of_lt_of_le hn (by unfold b64; decide)))
 have HN:=bx hn
 clear hn
 go_enter Tryz.func152,Tryz.ntmps152
 go_wp2_with fail
 have hrow:=Row.new w .u8 259 (List.replicate 20 0)
 have hb0:Below w.heap.size w (w.alloc (.cells (iD .u8 (List.replicate 20 0)).toArray 259)):=Below.alloc (Below.refl _ _) (Nat.le_refl _) _
 change (Code.wp _ _ _ _ (w.alloc (.cells (iD .u8 (List.replicate 20 0)).toArray 259)))
 generalize w.alloc (.cells (iD .u8 (List.replicate 20 0)).toArray 259)=w1 at *
 go_loopw [0,4] (λs0 s4 wr=>∃(m at_:Nat) (L:List Nat),s0=.int .u64 (m:Int)/\s4=.int .i64 (at_:Int)/\at_<=20/\Bx (L.length=20)/\Wf 256 L/\Row wr .u8 259 w.heap.size L/\Below w.heap.size w wr/\Bx (cw n=cw m++L.drop at_)/\Bx (m<b64)) (λs0 _ _=>(intOf s0).toNat)
 case atStart=>exact⟨n,20,List.replicate 20 0,rfl,rfl,Nat.le_refl _,bx (by simp),Wf.replicate (by omega) _,hrow,hb0,bx (by simp),HN⟩
 case round=>
  clear hrow hb0
  obtain⟨m,at_,L,rfl,rfl,hat,WM,O8,hr,hbl,HD,HM⟩:=hrel
  rcases Nat.eq_zero_or_pos m with rfl|hm0
  ·have hai:(at_:Int)<=20:=by omega
   have hai0:(0:Int)<=(at_:Int):=by omega
   have hu:=Tryz.underlying259
   have hdn:cw n=L.drop at_:=HD.out
   have hwd:Wf 256 (cw n):=by rw[hdn]; exact O8.drop _
   have TN:20-at_=(cw n).length:=by rw[hdn,List.length_drop,WM.out]
   have hcs:∀j,j<(cw n).length->wr.cell? ⟨w.heap.size,at_+j,none⟩=some (.int .u8 ((cw n).getD j 0:Nat)):=λj hj=>by
    rw[hr.cell (i:=at_+j) (by rw[WM.out]; omega),hdn]
    simp[List.getD_eq_getElem?_getD]
   have hcv:=Gi (c:=20-at_) hwd hcs _ TN
   have HLN:=bx TN
   clear hdn hwd hcs TN HD
   by_cases h20:at_=20
   ·subst h20
    have hcv0:=Gi (w:=wr) (g:=w.heap.size) (o:=0) (c:=0) (Wf.nil 256) (λj hj=>absurd hj (by simp)) 0 rfl
    have hE:cw n=[]:=List.eq_nil_of_length_eq_zero (by have:=HLN.out; omega)
    clear hcv
    go_wp2
    go_ret
    rw[hE]
    exact⟨rfl,hbl⟩
   ·have hne:¬20=at_:=λh=>h20 h.symm
    go_wp2
    go_ret
    exact⟨rfl,hbl⟩
  ·have hat0:1<=at_:=by
    have h1:=congrArg List.length HD.out
    have h2:=pA hm0
    have h3:=HL.out
    have h4:=WM.out
    rw[List.length_append,List.length_drop]at h1
    omega
   obtain⟨k,rfl⟩:∃k,at_=k+1:=⟨at_-1,by omega⟩
   obtain⟨vo,LO,NL⟩:=hr.get (i:=k) (by have:=WM.out; omega)
   have AR:=hr.frozen k
   have ot:(k:Int)<20:=by omega
   have yj:(0:Int)<=(k:Int):=by omega
   have LU:(1:Int)<=(m:Int):=by omega
   have hw:IntKind.u64.wrap ((m:Int)/10)=((m/10:Nat):Int):=by
    have:=HM.out
    rw[wrap_u64 (by omega) (by unfold b64 at this; omega)]; omega
   have hv:48+(m:Int)%10=((m%10+48:Nat):Int):=by omega
   have HW:=bx hw
   have HV:=bx hv
   clear hw hv
   go_wp2_with fail
   rw[HW.out,HV.out]
   refine⟨⟨m/10,k,L.set k (m%10+48),rfl,rfl,by omega,bx (by rw[List.length_set]; exact WM.out),O8.set (by omega),hr.set k _,hbl.setCell (Nat.le_refl _) _,bx ?_,bx (Nat.lt_of_le_of_lt (Nat.div_le_self _ _) HM.out)⟩,by simp[intOf]; omega⟩
   rw[HD.out,um hm0,nX (by have:=WM.out; omega),List.append_assoc]
   rfl
end Wx

namespace Wx
open Go Go.RowKit Go.Proofs
theorem dh (l:List Nat):(strOf l).size=l.length:=by simp[strOf,ByteArray.size]
end Wx

namespace Wx
open Go Go.RowKit Go.Proofs
end Wx

namespace Wx
open Go Go.RowKit Go.Proofs
end Wx

namespace Wx
set_option maxRecDepth 100000
set_option maxHeartbeats 1000000
open Go Go.RowKit Go.Proofs
theorem Ct:(Tryz.prog.info? 239).map (·.size)=some 2:=by kernel_rfl
theorem liesBuilder:liesAt Tryz.prog Tryz.prog.depth 239 (2/Tryz.prog.cellsOf 239) 0 239 1=true:=by kernel_rfl
theorem infoByte:(Tryz.prog.info? 5).map (λi=>(i.zero,i.size,i.bytes))=some (some (.int .u8 0),1,1):=by kernel_rfl
theorem yY (b:Nat) (w:World) (h0:w.cell? ⟨b,0,none⟩=some (.pointer (some ⟨b,0,none⟩))):
  Calls Tryz.prog 178 #[.pointer (some ⟨b,0,none⟩)] w λe w'=>e=.returned (.tuple #[])/\w'=w:=by
 obtain⟨j,hj,_⟩:=Option.map_eq_some_iff.1 Ct
 go_enter Tryz.func178,Tryz.ntmps178
 go_wp2
 rw[Lib.run_neq_ptr_same w _ Tryz.underlying236 hj]
 go_wp2
 go_end0
 exact⟨rfl,rfl⟩
theorem xH (b:Nat) (w:World) (h0:w.cell? ⟨b,0,none⟩=some (.pointer none)) (hsh:w.shape? b=some (239,2)) (hfz:w.frozen? ⟨b,0,none⟩=false):
  Calls Tryz.prog 178 #[.pointer (some ⟨b,0,none⟩)] w λe w'=>e=.returned (.tuple #[])/\w'=w.setCell ⟨b,0,none⟩ (.pointer (some ⟨b,0,none⟩)):=by
 obtain⟨j,hj,hjs⟩:=Option.map_eq_some_iff.1 Ct
 go_enter Tryz.func178,Tryz.ntmps178
 go_wp2
 rw[Lib.run_to_unsafe w ⟨b,0,none⟩ Tryz.underlying236 Tryz.underlying281 hj (by rw[hjs]; decide) hsh (Nat.zero_lt_succ 1)]
 simp only[Result.andThen]
 rw[Oper.upon_value]
 go_wp2
 rw[run_callFunc_extern Tryz.func195 (by kernel_rfl) (by kernel_rfl) (by kernel_rfl) (e:=Extern.AbiNoEscape.same) (by kernel_rfl)]
 rw[Lib.run_noEscape]
 simp only[Result.andThen]
 rw[Oper.upon_value]
 go_wp2
 rw[Lib.run_from_unsafe w ⟨b,0,none⟩ Tryz.underlying281 Tryz.underlying236 hj hsh liesBuilder]
 simp only[Result.andThen]
 rw[Oper.upon_value]
 go_wp2
 go_end0
 exact⟨rfl,rfl⟩
theorem AL (B b:Nat) (bs:List Value) (w:World) (h:Lib.IsBuilder 239 5 B b bs w):
  Calls Tryz.prog 178 #[.pointer (some ⟨b,0,none⟩)] w λe w'=>e=.returned (.tuple #[])/\(Lib.BuilderAt 239 5 B b (.pointer (some ⟨b,0,none⟩)) bs w'/\Below B w w'):=by
 rcases h with h|h
 ·refine(xH b w h.cell0 h.shape h.frozen0).mono ?_
  rintro e w' ⟨rfl,rfl⟩
  exact⟨rfl,h.used _,(Below.refl B w).setCell (p:=⟨b,0,none⟩) h.1 _⟩
 ·refine(yY b w h.cell0).mono ?_
  rintro e w' ⟨rfl,rfl⟩
  exact⟨rfl,h,Below.refl B _⟩
set_option maxHeartbeats 2000000 in
theorem xS (B b:Nat) (bs:List Value) (s:ByteArray) (w:World) (h:Lib.IsBuilder 239 5 B b bs w) (hlen:bs.length+s.size<=140737488355328) (hBw:B<=w.heap.size):
  Calls Tryz.prog 154 #[.pointer (some ⟨b,0,none⟩),.string s] w λe w'=>e=.returned (.tuple #[.int .i64 s.size,.nilIface])/\(Lib.BuilderAt 239 5 B b (.pointer (some ⟨b,0,none⟩)) (bs++Lib.strCells s) w'/\Below B w w'):=by
 obtain⟨i0,hi,hz0,hz1,hz2⟩:=info_parts infoByte
 go_enter Tryz.func154,Tryz.ntmps154
 go_wp2_with (go_at_call 178; refine(AL B b bs _ h).mono ?_)
 rintro e w1 ⟨rfl,h1,hb1⟩
 obtain⟨hB,v,hbk,hown,hne⟩:=h1
 have c0:w1.cell? ⟨b,0,none⟩=some (.pointer (some ⟨b,0,none⟩)):=by rw[Lib.cell_of_heap hbk]; rfl
 have c1:w1.cell? ⟨b,1,none⟩=some v:=by rw[Lib.cell_of_heap hbk]; rfl
 go_wp2_with (at_builtin; refine Lib.wpList_append_own_string _ rfl _ _ 237 9 rfl B 5 i0 Tryz.underlying237 Tryz.underlying9 hi hz0 hz1 hz2 _ _ _ rfl hown s rfl ?c3 ?c4 ?c5 ?_)
 case c3=>unfold maxLen; omega
 case c4=>omega
 case c5=>have:=hb1.size; omega
 intro v' w2 hown' hgrow _
 have hlt:b<w1.heap.size:=by
  rcases Nat.lt_or_ge b w1.heap.size with h'|h'
  ·exact h'
  ·simp[Array.getElem?_eq_none h']at hbk
 have hb2:w2.heap[b]?=some (.cells #[.pointer (some ⟨b,0,none⟩),v] 239 (0,0)):=by
  rw[hgrow.block b hlt (λe=>hne e.symm)]
  exact hbk
 have d0:w2.cell? ⟨b,0,none⟩=some (.pointer (some ⟨b,0,none⟩)):=by rw[Lib.cell_of_heap hb2]; rfl
 have d1:w2.cell? ⟨b,1,none⟩=some v:=by rw[Lib.cell_of_heap hb2]; rfl
 have f1:w2.frozen? ⟨b,1,none⟩=false:=Lib.frozen_of_heap hb2 1
 obtain⟨ao,n',cap,rfl⟩:∃ao n' cap,v'=.slice ao n' cap:=by
  rcases hown'.2 with⟨hv,_⟩|⟨g,cap,cur,hv,_⟩
  ·exact⟨_,_,_,hv⟩
  ·exact⟨_,_,_,hv⟩
 go_wp2
 go_ret2
 refine⟨rfl,?_,?_⟩
 ·exact Lib.BuilderAt.put (T:=239) (e:=5) hB hb2 (bs':=bs++Lib.strCells s) (by simpa [Lib.strCells_length] using hown') (by decide)
 ·exact(hb1.grown hgrow (by have:=hb1.size; omega) (λk hk=>(hown.lt k hk).1)).setCell (p:=⟨b,1,none⟩) hB _
end Wx

namespace Wx
set_option maxRecDepth 100000
set_option maxHeartbeats 1000000
open Go Go.RowKit Go.Proofs
def tF (k:Nat) (s:List Nat):List Nat:=List.replicate (k-s.length) 48++s
def cO (n:Nat):List Nat:=if n=0 then[48]else cw n
theorem C6 (n:Nat):Wf 256 (cw n):=by
 intro x hx
 unfold cw at hx
 rw[List.mem_reverse,List.mem_map]at hx
 obtain⟨y,hy,rfl⟩:=hx
 have:=cj (b:=10) (by omega) n y hy
 omega
theorem Hg (k:Nat):∀m,0<m/10^k->cw m=cw (m/10^k)++tF k (cw (m%10^k)):=by
 induction k with
 |zero=>intro m _; simp[tF,Nat.mod_one,oD]
 |succ k ih=>
  intro m h
  have hm:0<m:=by
   rcases Nat.eq_zero_or_pos m with rfl|h'
   ·simp at h
   ·exact h'
  have e1:m/10/10^k=m/10^(k+1):=by rw[Nat.div_div_eq_div_mul,Nat.pow_succ,Nat.mul_comm]
  have e2:m%10^(k+1)/10=m/10%10^k:=by rw[Nat.pow_succ,Nat.mul_comm,Nat.mod_mul_right_div_self]
  have e3:m%10^(k+1)%10=m%10:=by
   rw[Nat.pow_succ,Nat.mul_comm]; exact Nat.mod_mul_right_mod _ _ _
  rw[um hm,ih (m/10) (by rw[e1]; exact h),e1,List.append_assoc]
  congr 1
  rcases Nat.eq_zero_or_pos (m%10^(k+1))with h0|h0
  ·rw[h0]at e2 e3 ⊢
   rw[<-e2,<-e3]
   simp[tF,oD,<-List.replicate_succ']
  ·rw[um h0,e2,e3]
   unfold tF
   rw[List.length_append,List.length_singleton,List.append_assoc]
   congr 2
   omega
variable {k:Nat}
theorem SD {s:List Nat} (h:Wf 256 s):Wf 256 (tF k s):=by
 intro x hx
 rcases List.mem_append.1 hx with h'|h'
 ·have:=(List.mem_replicate.1 h').2; omega
 ·exact h x h'
theorem jI (a b:List Nat):strOf a++strOf b=strOf (a++b):=by
 apply ByteArray.ext
 rw[ByteArray.data_append]
 simp[strOf]
def strs (P:List (List Nat)):List Value:=P.map λp=>Value.string (strOf p)
def fj (P:List (List Nat)):List Nat:=P.reverse.flatten
variable {P:List (List Nat)}
theorem Hz {p:List Nat} (h:P[k]?=some p):fj (P.drop k)=fj (P.drop (k+1))++p:=by
 obtain⟨hk,e⟩:=List.getElem?_eq_some_iff.1 h
 rw[List.drop_eq_getElem_cons hk,e]
 simp[fj]
theorem zh (P:List (List Nat)) (k:Nat):(fj (P.drop k)).length<=(fj P).length:=by
 have h:fj P=fj (P.drop k)++fj (P.take k):=by
  unfold fj
  rw[<-List.flatten_append,<-List.reverse_append,List.take_append_drop]
 rw[h,List.length_append]; omega
def lB (l:List Nat):List Value:=Lib.byteCells (l.map UInt8.ofNat)
theorem CQ (p:List Nat):Lib.strCells (strOf p)=lB p:=by
 rw[Lib.strCells_eq]; simp[strOf,lB]
theorem AI (a b:List Nat):lB (a++b)=lB a++lB b:=by
 unfold lB; rw[List.map_append,Lib.byteCells_append]
theorem AJ (a:List Nat):(lB a).length=a.length:=by
 unfold lB; rw[Lib.byteCells_length,List.length_map]
variable {w:World} {c:Nat}
theorem Na {base:Nat} {e:TypeId} {A:Option Addr} (h:w.ownsRow base e 1 (.slice A P.length c) P.length (strs P)) {k:Nat} {p:List Nat} (hk:P[k]?=some p):
  ∃g,A=some ⟨g,0,none⟩/\g<w.heap.size/\P.length<=c/\c<=maxLen/\w.cell? ⟨g,0+k,none⟩=some (.string (strOf p)):=by
 obtain⟨hk',_⟩:=List.getElem?_eq_some_iff.1 hk
 rcases h.2 with⟨h1,h2⟩|⟨g,cap,cur,hv,hb,hg,hn,hm,hs,ht⟩
 ·omega
 ·injection hv with e1 e2 e3
  subst e1 e3
  have:=h.cells (g:=g) rfl k (.string (strOf p)) (by simp[strs,hk])
  rw[show(⟨g,0,none⟩:Addr).add k=⟨g,0+k,none⟩ by simp[Addr.add]; omega]at this
  refine⟨g,rfl,?_,hn,hm,this⟩
  rcases Nat.lt_or_ge g w.heap.size with h'|h'
  ·exact h'
  ·simp[Array.getElem?_eq_none h']at hg
theorem zi (P:List (List Nat)) (p:List Nat):fj (P++[p])=p++fj P:=by simp[fj]
theorem DU (c:Nat):(⟨(Lib.repeatL (⟨#[48]⟩:ByteArray).data.toList c).toArray⟩:ByteArray)=strOf (List.replicate c 48):=by
 have:∀c,Lib.repeatL [48] c=List.replicate c 48:=by
  intro c
  induction c with
  |zero=>rfl
  |succ c ih=>unfold Lib.repeatL; rw[ih]; rfl
 show(⟨(Lib.repeatL [48] c).toArray⟩:ByteArray)=_
 rw[this]
 simp[strOf]
theorem FT (h:∀p∈P,p≠[]):P.length<=(fj P).length:=by
 unfold fj
 induction P with
 |nil=>simp
 |cons p P ih=>
  have h1:=ih (λq hq=>h q (List.mem_cons_of_mem _ hq))
  have h2:=List.length_pos_iff.2 (h p (by simp))
  simp at h1 ⊢
  omega
theorem S5:(Tryz.prog.info? 9).map (λi=>(i.zero,i.size,i.bytes))=some (some (.string ⟨#[]⟩),1,16):=by kernel_rfl
def XQ (j n:Nat):Prop:=(cw n).length<=j
variable {n:Nat}
theorem J0 {j:Nat} (h:Bd j n):XQ j n:=qz (Nat.lt_of_lt_of_le h (Nat.pow_le_pow_left (by omega) j))
theorem Js:cO 0=[48]:=rfl
theorem Nd (h:0<n):cO n=cw n:=by unfold cO; rw[if_neg (by omega)]
theorem bQ.grown {k:IntKind} {bs:Nat} {w':World} {b l:Nat} {row:Option Nat} (h:bQ k bs w (.slice (some ⟨b,0,none⟩) l c) n) (hg:w.grownBy w' row) (hne:∀g,row=some g->g≠b):bQ k bs w' (.slice (some ⟨b,0,none⟩) l c) n:=by
 obtain⟨A,c',e,h1,h2,h3⟩:=h
 refine⟨A,c',e,h1,h2,λhl=>?_⟩
 obtain⟨b',o,e',hc⟩:=h3 hl
 refine⟨b',o,e',λi hi=>?_⟩
 subst e'
 injection e with e1 e2 e3
 injection e1 with e1
 injection e1 with e4 e5
 subst e4
 exact hg.cell (hc i hi) (λe=>hne _ e.symm rfl)
theorem sR {P:Program} {ops:Array Oper} {rest:List Oper} {o:Oper} {a:Act} {Q:Exit->Act->World->Prop} (hgd:o.guard=none) (s x:Operand) (t:TypeId)
  (ho:o.op=.call { callee:=.builtin .append,args:=#[s,x],argTypes:=#[t,t] }) (base:Nat) (e:TypeId) (i:TypeInfo) (ht:P.underlying t=some (.slice e)) (hi:P.info? e=some i) (hz:i.zero=some (.string ⟨#[]⟩))
  (hsize:i.size=1) (hby:i.bytes=16) {A:Option Addr} {c:Nat} (L:List (List Nat)) (hs:a.eval s=.slice A L.length c) (w:World) (hown:w.ownsRow base e 1 (.slice A L.length c) L.length (strs L))
  (p:List Nat) (hx:a.eval x=.slice (some ⟨w.heap.size,0,none⟩) 1 1) (hL:L.length<=1000000000) (hbase:base<=w.heap.size)
  (h:∀A' c' w',w'.ownsRow base e 1 (.slice A' (L++[p]).length c') (L++[p]).length (strs (L++[p]))->Below base (w.alloc (.cells #[.string (strOf p)] e)) w'->(w.alloc (.cells #[.string (strOf p)] e)).grownBy w' (Value.slice A L.length c).ownBlock->wpList P ops Q rest (a.put o.dst (.slice A' (L++[p]).length c')) w'):
  wpList P ops Q (o::rest) a (w.alloc (.cells #[.string (strOf p)] e)):=by
 refine wpList_append_own _ hgd s x t ho base e i (.string ⟨#[]⟩) 1 16 ht hi hz hsize hby rfl (by decide) _ _ _ hs (hown.alloc _) ⟨w.heap.size,0,none⟩ 1 1 [.string (strOf p)] hx rfl ?_ ?_ (by unfold maxLen; omega) (by omega) (by simp; omega) ?_
 ·intro j u hj
  match j,hj with
  |0,hj=>simp at hj; subst hj; simp[Addr.add]
 ·intro u hu; simp at hu; subst hu; rfl
 ·intro v' w' hown' hg _
  have e1:(L++[p]).length=L.length+1:=by simp
  have e2:strs (L++[p])=strs L++[.string (strOf p)]:=by simp[strs]
  have hb:Below base (w.alloc (.cells #[.string (strOf p)] e)) w':=(Below.refl _ _).grown hg (by simp; omega) (λk hk=>(hown.lt k hk).1)
  rw[<-e2,<-e1]at hown'
  rcases hown'.2 with⟨h1,h2⟩|⟨g,cap,cur,hv,hr⟩
  ·simp at h2
  ·subst hv
   exact h _ _ _ hown' hb hg
theorem o5 (w:World) (v:Value) (n:Nat) (h:bQ .u64 b64 w v n) {j:Nat} (hj:Bd j n) (fA:j<=100000000):Calls Tryz.prog 104 #[v] w (fU w (.string (strOf (cO n)))):=by
 have HL:=bx (J0 hj)
 have HB:=bx hj
 clear hj
 go_enter Tryz.func104,Tryz.ntmps104
 go_wp2_with fail
 go_loopw [0,3] (λs0 s3 wr=>∃(m:Nat) (P:List (List Nat)) (A:Option Addr) (c:Nat),bQ .u64 b64 wr s0 m/\s3=.slice A P.length c/\wr.ownsRow w.heap.size 9 1 (.slice A P.length c) P.length (strs P)/\Below w.heap.size w wr/\Bx (cw n=cw m++fj P)/\Bx (∀p∈P,p≠[]/\Wf 256 p)/\Bx (Bd j m)) (λs0 _ wr=>numOf wr s0)
 case atStart=>exact⟨n,[],none,0,h,rfl,World.ownsRow_nil _ _ _ _,Below.refl _ _,bx (by simp[fj]),bx (by simp),HB⟩
 case round=>
  clear h HB
  obtain⟨m,P,A,c,hm,rfl,hown,hb,HD,HP,HB⟩:=hrel
  have hPl:P.length<=100000000:=by
   have h1:=FT (λp hp=>(HP.out p hp).1)
   have h2:(cw n).length<=j:=HL.out
   rw[HD.out,List.length_append]at h2
   omega
  rcases Nat.eq_zero_or_pos m with rfl|hm0
  ·obtain⟨A0,c0,rfl,hr⟩:=id hm
   rw[bN]at hr ⊢
   have Ff:=HL
   have Bp:Bx (cw n=fj P):=bx (by rw[HD.out,oD,List.nil_append])
   clear HD HB hm hr
   by_cases hP0:P=[]
   ·subst hP0
    have Fh:n=0:=by
     rcases Nat.eq_zero_or_pos n with h|h
     ·exact h
     ·have:=pA h
      rw[Bp.out]at this
      simp[fj]at this
    subst Fh
    rw[Js]
    go_wp2
    go_ret
    exact⟨rfl,hb⟩
   ·have Fh:0<n:=by
     rcases Nat.eq_zero_or_pos n with h|h
     ·exfalso
      have h1:=FT (λp hp=>(HP.out p hp).1)
      have h2:=List.length_pos_iff.2 hP0
      rw[<-Bp.out,h,oD]at h1
      have h3:P.length<=0:=h1
      omega
     ·exact h
    have HT:=bx (Nd Fh)
    have NA:(1:Int)<=(P.length:Int):=by have:=List.length_pos_iff.2 hP0; omega
    have hpe:((P.length:Int)==0)=false:=beq_eq_false_iff_ne.2 (by omega)
    have LY:Wf 256 (fj P):=by rw[<-Bp.out]; exact C6 _
    have hlf:(fj P).length<=100000000:=by
     have h2:(cw n).length<=j:=HL.out
     rw[Bp.out]at h2; omega
    clear hP0 Fh
    have HLF:=bx hlf
    have HW2:=bx LY
    clear hlf LY
    go_wp2_with fail
    have YF:=Lib.fresh_isBuilder 239 5 wr
    have OS:Below wr.heap.size wr (wr.alloc (.cells #[.pointer none,.slice none 0 0] 239)):=Below.alloc (Below.refl _ _) (Nat.le_refl _) _
    generalize wr.alloc (.cells #[.pointer none,.slice none 0 0] 239)=wb at *
    obtain⟨wo,rfl⟩:∃wo:World,wo=wr:=⟨_,rfl⟩
    go_loopw [8] (λs8 wx=>∃k:Nat,k<=P.length/\s8=.int .i64 ((k:Int)-1)/\Lib.IsBuilder 239 5 wo.heap.size wo.heap.size (lB (fj (P.drop k))) wx/\Below wo.heap.size wo wx) (λs8 _=>(intOf s8+1).toNat)
    case atStart=>exact⟨P.length,Nat.le_refl _,rfl,by rw[List.drop_length]; exact YF,OS⟩
    case round=>
     clear YF OS
     obtain⟨k,hk,rfl,hib,YI⟩:=hrel
     rcases Nat.eq_zero_or_pos k with rfl|hpos
     ·rw[show(((0:Nat):Int)-1) = -1 by omega]
      rw[List.drop_zero]at hib
      go_wp2_with fail
      refine Calls.mono (Tryz.Builder_String_any wo.heap.size wo.heap.size ((fj P).map UInt8.ofNat) wr hib YI.size) ?_
      rintro e wf ⟨rfl,hbf⟩
      go_wp2
      go_ret
      rw[HT.out,Bp.out]
      exact⟨rfl,hb.trans ((YI.trans hbf).mono hb.size)⟩
     ·obtain⟨i,rfl⟩:∃i,k=i+1:=⟨k-1,by omega⟩
      rw[show(((i+1:Nat):Int)-1)=(i:Int) by omega]
      obtain⟨p,hp⟩:∃p,P[i]?=some p:=⟨P[i]'(by omega),List.getElem?_eq_getElem (by omega)⟩
      obtain⟨g,rfl,hg1,hg2,hg3,TI⟩:=Na hown hp
      have YM:wr.cell? ⟨g,0+i,none⟩=some (.string (strOf p)):=by rw[YI.cell hg1]; exact TI
      rw[Nat.zero_add]at YM
      have W8:=Hz hp
      have TN:=zh P i
      have HWS:=bx (xS wo.heap.size wo.heap.size (lB (fj (P.drop (i+1)))) (strOf p) wr hib (by
       rw[AJ,dh]
       rw[W8,List.length_append]at TN
       have:=HLF.out
       omega) YI.size)
      have HFD:=bx (show lB (fj (P.drop (i+1)))++Lib.strCells (strOf p)=lB (fj (P.drop i)) by rw[CQ,W8,AI])
      have hi0:(0:Int)<=(i:Int):=by omega
      have hi1:(i:Int)<(P.length:Int):=by omega
      clear TI W8 TN hp
      go_wp2_with fail
      refine Calls.mono HWS.out ?_
      rintro e wy ⟨rfl,hby,hbz⟩
      rw[HFD.out]at hby
      clear HWS YM
      go_wp2
      go_roundw
      case rel=>
       have hcnt:(Value.int .i64 (i:Int):Value)=.int .i64 (i:Int):=rfl
       (repeat apply Exists.intro)
       exact⟨⟨i,by omega,by go_num,.inr hby,YI.trans hbz⟩,rfl⟩
      case measure=>simp[intOf]
  ·have LU:0<(af b64 m).length:=(aQ (n:=m) av).2 hm0
   have AB:(1:Int)<=((af b64 m).length:Int):=by omega
   have hc:=w9 wr _ m 10000000000000000000 hm HB.out (by omega) (by omega) (by unfold b64; omega)
   obtain⟨q,hq⟩:∃q,q=m/10000000000000000000:=⟨_,rfl⟩
   obtain⟨r,hr⟩:∃r,r=m%10000000000000000000:=⟨_,rfl⟩
   have Tk:=bx (show r<10000000000000000000 by omega)
   have Z4:=bx (show q=0->r=m by omega)
   have HQ:=bx (show q<m by omega)
   have HQ1:=bx (show q<=m by omega)
   rw[<-hq,<-hr,show(((10000000000000000000:Nat):Int))=10000000000000000000 from rfl]at hc
   have HCH:Bx (0<q->cw m=cw q++tF 19 (cw r)):=bx (λh=>by
    have:=Hg 19 m
    rw[show(10:Nat)^19=10000000000000000000 by decide,<-hq,<-hr]at this
    exact this h)
   clear hq hr
   obtain⟨A0,c0,rfl,hr⟩:=id hm
   have HM:=bx hm0
   have HC:=bx hc
   clear hm0 hc hr
   go_wp2_with fail
   refine Calls.mono HC.out ?_
   rintro e w1 ⟨l1,c1,rfl,hq,hb1⟩
   have HRB:=bx (show r<b64 by have:=Tk.out; unfold b64; omega)
   go_wp2_with fail
   refine Calls.mono (EN w1 r HRB.out) ?_
   rintro e w2 ⟨rfl,hb2⟩
   have Vx:=hq.below hb2
   have hb3:=(hb.trans (hb1.mono hb.size)).trans (hb2.mono (hb.trans (hb1.mono hb.size)).size)
   have De:=hb1.trans (hb2.mono hb1.size)
   clear hq hb2
   have hdl:(cw r).length<=19:=qz (by have:=Tk.out; omega)
   have hdl1:((cw r).length:Int)<=19:=by omega
   have hsz:=dh (cw r)
   obtain⟨_,_,qO,_⟩:=id Vx
   injection qO with e1 e2 e3
   subst e1 e2 e3
   obtain⟨i0,hi,hz0,hz1,hz2⟩:=info_parts S5
   have sE:=hown.kept (dz De none) (by cases A with|none=>exact .inl rfl|some a=>exact .inr (by simp[Value.ownBlock]))
   have HNE:Bx (∀g,(Value.slice A P.length c).ownBlock=some g->g≠wr.heap.size):=bx (λg hg=>by have:=(hown.lt g hg).2; omega)
   rcases Nat.eq_zero_or_pos q with rfl|AD
   ·have dR:Bx (cw n=cw 0++fj (P++[cw r])):=bx (by
     rw[zi,oD,List.nil_append,Z4.out rfl]; exact HD.out)
    have hpp:Bx (∀p∈P++[cw r],p≠[]/\Wf 256 p):=bx (λp hp=>by
     rcases List.mem_append.1 hp with h|h
     ·exact HP.out p h
     ·simp at h
      subst h
      exact⟨List.length_pos_iff.1 (pA (by rw[Z4.out rfl]; exact HM.out)),C6 _⟩)
    have hbd:Bx (Bd j 0):=bx (HB.out.le (Nat.zero_le _))
    clear HC HCH Z4 hown
    rw[bN]
    go_wp2_with (at_builtin; refine sR rfl (.tmp 28) (.tmp 30) 231 rfl w.heap.size 9 i0 Tryz.underlying231 hi hz0 hz1 hz2 P rfl w2 sE (cw r) rfl (by omega) hb3.size ?_; intro A3 c3 w4 uA hb4 hg4)
    have hz:=((hb3.alloc hb3.size (.cells #[.string (strOf (cw r))] 9)).trans hb4)
    have TT:=(Vx.below (Below.alloc (Below.refl _ _) (Nat.le_refl _) (.cells #[.string (strOf (cw r))] 9))).grown hg4 HNE.out
    rw[bN]at TT
    have TT:bQ .u64 b64 w4 (.slice (some ⟨wr.heap.size,0,none⟩) 0 c1) 0:=TT
    go_wp2
    go_roundw
    case rel=>
     exact⟨0,P++[cw r],A3,c3,TT,by simp,uA,hz,dR,hpp,hbd⟩
    case measure=>rw[TT.of_eq,hm.of_eq]; exact HM.out
   ·have GB:(1:Int)<=((af b64 q).length:Int):=by have:=(aQ (n:=q) av).2 AD; omega
    have Vw:tF 19 (cw r)=List.replicate (19-(cw r).length) 48++cw r:=rfl
    have Y2:(tF 19 (cw r)).length=19:=by rw[Vw,List.length_append,List.length_replicate]; omega
    have dR:Bx (cw n=cw q++fj (P++[tF 19 (cw r)])):=bx (by
     rw[zi,<-List.append_assoc,<-HCH.out AD]; exact HD.out)
    have hpp:Bx (∀p∈P++[tF 19 (cw r)],p≠[]/\Wf 256 p):=bx (λp hp=>by
     rcases List.mem_append.1 hp with h|h
     ·exact HP.out p h
     ·simp at h
      subst h
      exact⟨List.length_pos_iff.1 (by omega),SD (C6 _)⟩)
    have hbd:Bx (Bd j q):=bx (HB.out.le HQ1.out)
    have HPAD:=bx Vw
    clear AD Vw Y2 HC HCH Z4
    have hsz2:(strOf (List.replicate (19-(cw r).length) 48)).size=19-(cw r).length:=by rw[dh,List.length_replicate]
    have hsz3:(19-(cw r).length)+(cw r).length<=9223372036854775807:=by omega
    have hsl3:19-(cw r).length<=19:=by omega
    go_wp2_with fail
    rw[show(19:Int)-((cw r).length:Int)=((19-(cw r).length:Nat):Int) by omega]
    refine Calls.mono (Tryz.strings_Repeat ⟨#[48]⟩ (19-(cw r).length) w2 (by omega) (by show 1*_<=_; omega)) ?_
    rw[DU]
    rintro e w3 ⟨rfl,hb4⟩
    have Kf:=sE.kept (dz hb4 none) (by cases A with|none=>exact .inl rfl|some a=>exact .inr (by simp[Value.ownBlock]))
    have hq3:=Vx.below hb4
    have TH:=hb3.trans (hb4.mono hb3.size)
    have ab6:strOf (List.replicate (19-(cw r).length) 48)++strOf (cw r)=strOf (tF 19 (cw r)):=by rw[jI]; rfl
    go_wp2_with (at_builtin; refine sR rfl (.tmp 28) (.tmp 30) 231 rfl w.heap.size 9 i0 Tryz.underlying231 hi hz0 hz1 hz2 P rfl w3 Kf (tF 19 (cw r)) rfl (by omega) TH.size ?_; intro A3 c3 w4 uA Vc hg4)
    have hz:=((TH.alloc TH.size (.cells #[.string (strOf (tF 19 (cw r)))] 9)).trans Vc)
    have TT:=(hq3.below (Below.alloc (Below.refl _ _) (Nat.le_refl _) (.cells #[.string (strOf (tF 19 (cw r)))] 9))).grown hg4 HNE.out
    clear ab6
    go_wp2
    go_roundw
    case rel=>
     exact⟨q,P++[tF 19 (cw r)],A3,c3,TT,by simp,uA,hz,dR,hpp,hbd⟩
    case measure=>rw[TT.of_eq,hm.of_eq]; exact HQ.out
end Wx
