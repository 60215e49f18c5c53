import Derived.Lib.Hide
import Derived.Laws.Externs
import Derived.Laws.MakeOwn
import Derived.Deep.DeepCutAuto
import Derived.Deep.CutBlock
import Derived.Deep.AppendLies
import Derived.WalkSmall
import Derived.Deep.QuietTactic
import Derived.BigQuiet
import Derived.Test.YtikkgpljpglnbaaGreatJRM0
import Derived.Handy
import Derived.Orders
import Derived.Tactics
namespace Wx
open Go Go.RowKit
structure Bx (p:Prop):Prop where
 out:p
theorem bx {p:Prop} (h:p):Bx p:=⟨h⟩
def fo (k:IntKind) (l:List Nat):List Value:=l.map λ(n:Nat)=>Value.int k (n:Int)
theorem gA (k:IntKind) (l:List Nat):(fo k l).length=l.length:=by simp[fo]
variable {k:IntKind} {l:List Nat}
theorem za {i:Nat} (h:i<l.length):(fo k l)[i]?=some (.int k ((l.getD i 0:Nat):Int)):=by
 simp[fo,h]
def Rd (w:World) (k:IntKind) (A:Option Addr) (c:Nat) (l:List Nat):Prop:=
 l.length<=c/\c<=maxLen/\(l≠[]->∃b o,A=some ⟨b,o,none⟩/\∀i,i<l.length->w.cell? ⟨b,o+i,none⟩=some (.int k (l.getD i 0:Nat)))
theorem Rd.nil (w:World) (k:IntKind):Rd w k none 0 []:=⟨Nat.le_refl _,Nat.zero_le _,λh=>absurd rfl h⟩
variable {w:World} {A:Option Addr} {c:Nat}
theorem Rd.take (h:Rd w k A c l) (n:Nat):Rd w k A c (l.take n):=by
 obtain⟨h1,h2,h3⟩:=h
 refine⟨by simp; omega,h2,λhne=>?_⟩
 have hl:l≠[]:=by rintro rfl; simp at hne
 obtain⟨b,o,e,hc⟩:=h3 hl
 refine⟨b,o,e,λi hi=>?_⟩
 have:i<n/\i<l.length:=by rw[List.length_take]at hi; omega
 rw[hc i this.2,List.getD_eq_getElem?_getD,List.getD_eq_getElem?_getD,List.getElem?_take_of_lt this.1]
variable {w':World}
theorem Rd.below (h:Rd w k A c l) (hb:Below w.heap.size w w'):Rd w' k A c l:=by
 obtain⟨h1,h2,h3⟩:=h
 refine⟨h1,h2,λhne=>?_⟩
 obtain⟨b,o,e,hc⟩:=h3 hne
 refine⟨b,o,e,λi hi=>?_⟩
 have:=hc i hi
 rw[hb.cell (World.block_lt_of_cell? w _ this)]
 exact this
theorem Rd.at_ (h:Rd w k A c l) {i:Nat} (hi:i<l.length):
  ∃b o,A=some ⟨b,o,none⟩/\w.cell? ⟨b,o+i,none⟩=some (.int k (l.getD i 0:Nat)):=by
 obtain⟨b,o,e,hc⟩:=h.2.2 (by rintro rfl; simp at hi)
 exact⟨b,o,e,hc i hi⟩
theorem Rd.get (h:Rd w k A c l) {i:Nat} (hi:i<l.length):
  ∃b o,∃v:Nat,A=some ⟨b,o,none⟩/\w.cell? ⟨b,o+i,none⟩=some (.int k (v:Int))/\Hid (l[i]?=some v):=by
 obtain⟨b,o,e,hc⟩:=h.at_ hi
 refine⟨b,o,l.getD i 0,e,hc,?_⟩
 show l[i]?=some (l.getD i 0)
 rw[List.getD_eq_getElem?_getD,List.getElem?_eq_getElem hi]
 rfl
theorem Rd.len (h:Rd w k A c l):l.length<=9223372036854775807:=by
 have h1:=h.1
 have h2:=h.2.1
 unfold maxLen at h2
 omega
def Row (w:World) (k:IntKind) (e:TypeId) (g:Nat) (l:List Nat):Prop:=∃rest:List Value,w.heap[g]?=some (.cells (fo k l++rest).toArray e (0,0))
variable {e:TypeId} {g:Nat}
theorem Row.lt (h:Row w k e g l):g<w.heap.size:=by
 obtain⟨r,h⟩:=h
 rcases Nat.lt_or_ge g w.heap.size with hlt|hge
 ·exact hlt
 ·rw[Array.getElem?_eq_none hge]at h; cases h
theorem Row.cell (h:Row w k e g l) {i:Nat} (hi:i<l.length):w.cell? ⟨g,i,none⟩=some (.int k (l.getD i 0:Nat)):=by
 obtain⟨r,h⟩:=h
 rw[cell_of_row w g i _ e (0,0) h]
 have:(fo k l++r)[i]?=(fo k l)[i]?:=List.getElem?_append_left (by rw[gA]; exact hi)
 simpa [this] using za (k:=k) hi
theorem Row.get (h:Row w k e g l) {i:Nat} (hi:i<l.length):
  ∃v:Nat,w.cell? ⟨g,i,none⟩=some (.int k (v:Int))/\Hid (l[i]?=some v):=by
 refine⟨l.getD i 0,h.cell hi,?_⟩
 show l[i]?=some (l.getD i 0)
 rw[List.getD_eq_getElem?_getD,List.getElem?_eq_getElem hi]
 rfl
theorem Row.frozen (h:Row w k e g l) (i:Nat):w.frozen? ⟨g,i,none⟩=false:=by
 obtain⟨r,h⟩:=h
 simp[World.frozen?,h]
theorem Row.set (h:Row w k e g l) (i x:Nat):Row (w.setCell ⟨g,i,none⟩ (.int k (x:Int))) k e g (l.set i x):=by
 obtain⟨r,h⟩:=h
 have hs:(w.setCell ⟨g,i,none⟩ (.int k (x:Int))).heap[g]?=some (.cells ((fo k l++r).set i (.int k (x:Int))).toArray e (0,0)):=by
  simp[World.setCell,Array.getElem?_modify,h]
 by_cases hi:i<l.length
 ·refine⟨r,?_⟩
  rw[hs,List.set_append_left _ _ (by rw[gA]; exact hi)]
  simp[fo]
 ·refine⟨r.set (i-l.length) (.int k (x:Int)),?_⟩
  rw[hs,List.set_append_right _ _ (by rw[gA]; omega),gA,List.set_eq_of_length_le (l:=l) (by omega)]
theorem Row.Nx (h:Row w k e g l) {p:Addr} (hp:g≠p.block) (u:Value):Row (w.setCell p u) k e g l:=h.imp λ_ h=>(Below.heap_setCell w p u g hp).trans h
theorem Row.below {B:Nat} (h:Row w k e g l) (hb:Below B w w') (hg:g<B):Row w' k e g l:=h.imp λ_ h=>(hb.block g hg).trans h
theorem Row.keep (h:Row w k e g l) (hb:Below w.heap.size w w'):Row w' k e g l:=h.below hb h.lt
theorem Row.rd (h:Row w k e g l) {n c:Nat} (hn:n<=l.length) (hc:n<=c) (hm:c<=maxLen):Rd w k (some ⟨g,0,none⟩) c (l.take n):=by
 have hl:(l.take n).length=n:=by rw[List.length_take]; omega
 refine⟨by omega,hm,λ_=>⟨g,0,rfl,λi hi=>?_⟩⟩
 rw[hl]at hi
 rw[Nat.zero_add,h.cell (by omega),List.getD_eq_getElem?_getD,List.getD_eq_getElem?_getD,List.getElem?_take_of_lt hi]
theorem Row.iE (h:Row w k e g l) {c:Nat} (hc:l.length<=c) (hm:c<=maxLen):Rd w k (some ⟨g,0,none⟩) c l:=by
 have:=h.rd (Nat.le_refl _) hc hm
 rwa [List.take_length]at this
theorem zG {base:Nat} (h:w.ownsRow base e 1 (.slice A l.length c) l.length (fo k l)) (hl:0<l.length):
  ∃g,A=some ⟨g,0,none⟩/\base<=g/\Row w k e g l/\l.length<=c/\c<=maxLen:=by
 rcases h.2 with⟨h1,h2⟩|⟨g,cap,cur,hv,hb,hg,hn,hm,hs,ht⟩
 ·omega
 ·injection hv with e1 e2 e3
  subst e1 e3
  refine⟨g,rfl,hb,⟨cur.toList.drop l.length,?_⟩,hn,hm⟩
  rw[hg]
  rw[Nat.mul_one]at ht
  rw[<-ht,List.take_append_drop]
theorem Row.new (w:World) (k:IntKind) (e:TypeId) (l:List Nat):Row (w.alloc (.cells (fo k l).toArray e)) k e w.heap.size l:=⟨[],by rw[heap_alloc_new,List.append_nil]⟩
def cI (k:IntKind) (b:Nat) (w:World) (v:Value) (n:Nat):Prop:=∃A c,v=.slice A (af b n).length c/\Rd w k A c (af b n)
variable {b:Nat} {v:Value} {n:Nat}
theorem cI.below (h:cI k b w v n) (hb:Below w.heap.size w w'):cI k b w' v n:=by
 obtain⟨A,c,e,hr⟩:=h
 exact⟨A,c,e,hr.below hb⟩
theorem cI.zero (k:IntKind) (b:Nat) (w:World):cI k b w (.slice none 0 0) 0:=⟨none,0,by rw[bk]; rfl,by rw[bk]; exact Rd.nil _ _⟩
theorem cI.of (hb:2<=b) (h:Rd w k A c l) (hn:l.length=n) (hw:Wf b l) (ht:qV l):cI k b w (.slice A n c) (val b l):=by
 refine⟨A,c,?_,?_⟩
 ·rw[nO hb hw ht,hn]
 ·rw[nO hb hw ht]; exact h
def jc (k:IntKind) (b:Nat) (w:World) (n:Nat) (e:Ending) (w':World):Prop:=∃v,e=.returned v/\cI k b w' v n/\Below w.heap.size w w'
def Ii (k:IntKind) (b:Nat) (w:World) (n:Nat) (e:Ending) (w':World):Prop:=w=w'/\∃v,e=.returned v/\cI k b w v n
def eZ (w:World) (v:Value) (e:Ending) (w':World):Prop:=e=.returned v/\Below w.heap.size w w'
def Qe:Value->Nat|.slice _ n _=>n|_=>0
theorem mh {a b:Int} (h:a=b):Ending.returned (.int k a)=.returned (.int k b):=by rw[h]
theorem ur (k:IntKind) (n:Nat):madeCells #[.int k 0] n=(fo k (List.replicate n 0)).toArray:=by
 apply Array.ext
 ·simp[madeCells,fo]
 ·intro i h1 h2
  simp[madeCells,fo,Nat.mod_one]
variable {P:Program}
theorem eP (w:World) {ops:Array Oper} {rest:List Oper} {o:Oper} {a:Act} {Q:Exit->Act->World->Prop}
  (hg:o.guard=none) (l c:Operand) (t:TypeId) (hop:o.op=Op.makeSlice t l c)
  (k:IntKind) (e:TypeId) (h1:P.underlying t=some (.slice e)) (hi:(P.info? e).map (λi=>(i.zero,i.size,decide (i.bytes<=8)))=some (some (.int k 0),1,true))
  (L C:Int) (hl:a.eval l=.int .i64 L) (hc:a.eval c=.int .i64 C) (hL:0<=L) (OK:L<=C) (hC:C<=1099511627776)
  (hK:∀w',Row w' k e w.heap.size (List.replicate C.toNat 0)->Below w.heap.size w w'->w'.heap.size=w.heap.size+1->wpList P ops Q rest (a.put o.dst (.slice (some ⟨w.heap.size,0,none⟩) L.toNat C.toNat)) w'):
  wpList P ops Q (o::rest) a w:=by
 obtain⟨i,h2,hzz⟩:=Option.map_eq_some_iff.1 hi
 simp only[Prod.mk.injEq,decide_eq_true_eq]at hzz
 obtain⟨hz,hs,hb⟩:=hzz
 refine wpList_plain hg λK hK'=>?_
 have hbytes:(i.bytes:Int)*C<=281474976710656:=by
  have h8:(i.bytes:Int)<=8:=by omega
  have:=Int.mul_le_mul_of_nonneg_right h8 (show 0<=C by omega)
  omega
 have hrun:=run_make (P:=P) w t e i (.int k 0) h1 h2 hz .i64 .i64 L C hL OK hbytes (by omega)
 rw[hs,Nat.mul_one]at hrun
 unfold Oper.wp
 simp only[execOp,hop,hl,hc,Sem.run_bind,hrun,Result.andThen]
 simp only[Sem.run_pure,Oper.upon]
 refine hK' _ _ (hK _ ?_ ((Below.refl _ _).alloc (Nat.le_refl _) _) (by simp))
 simp only[Value.cells,ur]
 exact Row.new _ _ _ _
def zY (P:Program) (f:FuncId) (x y c:Operand) (ops:Array Oper) (Q:Exit->Act->World->Prop) (o:Oper) (rest:List Oper) (a:Act) (w:World):Prop:=
 ∃v w',(callFunc f #[a.eval x,a.eval y,a.eval c]).run P w=.ok (.value v) w'/\wpList P ops Q rest (a.put o.dst v) w'
theorem gb (f:FuncId) {x y c:Operand} {ts:Array TypeId} {ops:Array Oper} {Q:Exit->Act->World->Prop} {o:Oper} {rest:List Oper} {a:Act} {w:World}
  (hg:o.guard=none) (hop:o.op=Op.call { callee:=.value (.func f),args:=#[x,y,c],argTypes:=ts }) (h:zY P f x y c ops Q o rest a w):wpList P ops Q (o::rest) a w:=by
 obtain⟨v,w',hrun,hK⟩:=h
 refine wpList_plain hg λK hK'=>?_
 have e:(execOp a.eval o).run P w=.ok (.value v) w':=by
  unfold execOp
  simp[hop,resolve,Act.eval,Deferred.ofValue,invoke]
  simpa [Act.eval] using hrun
 unfold Oper.wp
 rw[e]
 exact hK' _ _ hK
def xH (x y c:Int):Int:=(x+y+c)%18446744073709551616
def xG (x y c:Int):Int:=(x+y+c)/18446744073709551616
variable {f:FuncId} {fn:Func}
theorem add64_ext (hf : P.funcs[f]? = some fn) (hname : (fn.name == "runtime.NumGoroutine") = false)
  (hb:fn.body.isNone=true) (hn:Extern.findNext fn=none) (he:Extern.find fn=some add64Entry)
  {x y c:Operand} {ops:Array Oper} {Q:Exit->Act->World->Prop} {o:Oper} {rest:List Oper} {a:Act} {w:World} {X Y C:Int}
  (hx:a.eval x=.int .u64 X) (hy:a.eval y=.int .u64 Y) (hc:a.eval c=.int .u64 C) (x0:0<=X) (y0:0<=Y) (c0:0<=C) (c1:C<=1)
  (hK:wpList P ops Q rest (a.put o.dst (.tuple #[.int .u64 (xH X Y C),.int .u64 (xG X Y C)])) w):zY P f x y c ops Q o rest a w:=by
 refine⟨_,w,?_,hK⟩
 rw[hx,hy,hc,run_callFunc_extern hf hname hb hn he,run_add64 X Y C x0 y0 c0 c1]
 rfl
def gK (x y c:Nat):Nat:=(x+18446744073709551616-y-c)%18446744073709551616
def iW (x y c:Nat):Nat:=if x<y+c then 1 else 0
def subEntry : Array Value → Sem Value := (Extern.MathBitsCarry.rows.getD 1 ("", fun _ => default)).2
theorem oN (x y b:Nat) (hb:b<=1) (w:World):
  (subEntry #[.int .u64 x,.int .u64 y,.int .u64 b]).run P w=.ok (.tuple #[.int .u64 (gK x y b:Nat),.int .u64 (iW x y b:Nat)]) w:=by
 have:b=0\/b=1:=by omega
 rcases this with rfl|rfl<;>rfl
theorem sub64_ext (hf : P.funcs[f]? = some fn) (hname : (fn.name == "runtime.NumGoroutine") = false)
  (hb:fn.body.isNone=true) (hn:Extern.findNext fn=none) (he:Extern.find fn=some subEntry)
  {x y c:Operand} {ops:Array Oper} {Q:Exit->Act->World->Prop} {o:Oper} {rest:List Oper} {a:Act} {w:World} (X Y C:Nat)
  (hx:a.eval x=.int .u64 X) (hy:a.eval y=.int .u64 Y) (hc:a.eval c=.int .u64 C) (c1:C<=1)
  (hK:wpList P ops Q rest (a.put o.dst (.tuple #[.int .u64 (gK X Y C:Nat),.int .u64 (iW X Y C:Nat)])) w):zY P f x y c ops Q o rest a w:=by
 refine⟨_,w,?_,hK⟩
 rw[hx,hy,hc,run_callFunc_extern hf hname hb hn he,oN X Y C c1]
 rfl
theorem tO (x y c:Nat):iW x y c<=1:=by unfold iW; split<;>omega
theorem tP {x y:Nat} (hx:x<18446744073709551616) (hy:y<18446744073709551616) (hc:c<=1):gK x y c+y+c=x+18446744073709551616*iW x y c/\gK x y c<18446744073709551616:=by
 unfold gK iW
 split<;>omega
@[irreducible] def adLo (x y : Nat) : Nat := (x + y) % 18446744073709551616
@[irreducible] def adHi (x y : Nat) : Nat := (x + y) / 18446744073709551616
@[irreducible] def muLo (x y : Nat) : Nat := x * y % 18446744073709551616
@[irreducible] def muHi (x y : Nat) : Nat := x * y / 18446744073709551616
theorem qX (x y:Nat):adLo x y+18446744073709551616*adHi x y=x+y:=by
 unfold adLo adHi; omega
theorem qW (x y:Nat):adLo x y<18446744073709551616:=by unfold adLo; omega
theorem rz (x y:Nat):muLo x y+18446744073709551616*muHi x y=x*y:=by
 unfold muLo muHi; exact Nat.mod_add_div _ _
theorem CC (x y:Nat):muLo x y<18446744073709551616:=by unfold muLo; exact Nat.mod_lt _ (by omega)
theorem add64z_ext (hf : P.funcs[f]? = some fn) (hname : (fn.name == "runtime.NumGoroutine") = false)
  (hb:fn.body.isNone=true) (hn:Extern.findNext fn=none) (he:Extern.find fn=some add64Entry)
  {x y c:Operand} {ops:Array Oper} {Q:Exit->Act->World->Prop} {o:Oper} {rest:List Oper} {a:Act} {w:World} {X Y:Nat}
  (hx:a.eval x=.int .u64 X) (hy:a.eval y=.int .u64 Y) (hc:a.eval c=.int .u64 0)
  (hK:wpList P ops Q rest (a.put o.dst (.tuple #[.int .u64 (adLo X Y:Nat),.int .u64 (adHi X Y:Nat)])) w):zY P f x y c ops Q o rest a w:=by
 refine⟨_,w,?_,hK⟩
 rw[hx,hy,hc,run_callFunc_extern hf hname hb hn he,run_add64 X Y 0 (by omega) (by omega) (by omega) (by omega)]
 simp only[Result.andThen]
 unfold adLo adHi
 congr 5<;>omega
theorem wrap_u64 {n:Int} (h0:0<=n) (h1:n<18446744073709551616):IntKind.u64.wrap n=n:=by
 rw[IntKind.wrap_u64]; omega
def BX (w:World) (v:Value) (e:Ending) (w':World):Prop:=e=.returned v/\∃m,w'=w.drewN m
theorem BX.is {e:Ending} (h:BX w v e w'):eZ w v e w':=by
 obtain⟨he,m,rfl⟩:=h
 exact⟨he,below_drewN (Below.refl _ _) m⟩
theorem Row.drew (h:Row w k e g l):Row w.drew k e g l:=h
theorem Row.drewN (h:Row w k e g l) (n:Nat):Row (w.drewN n) k e g l:=h
theorem Rd.news {o:Nat} (h:Rd w k (some ⟨b,o,none⟩) c l):∀j u,(fo k l)[j]?=some u->w.cell? ((⟨b,o,none⟩:Addr).add j)=some u:=by
 intro j u hu
 have hj:j<l.length:=by
  have:=(List.getElem?_eq_some_iff.1 hu).1
  simpa [fo] using this
 obtain⟨b',o',e,hc⟩:=h.at_ hj
 injection e with e
 injection e with e1 e2
 subst e1 e2
 rw[Addr.add_lit,hc]
 rw[za hj]at hu
 exact hu
theorem yZ (k:IntKind) (l r:List Nat):fo k (l++r)=fo k l++fo k r:=by simp[fo]
theorem wK (k:IntKind) (l:List Nat):∀u∈fo k l,u.oneCell'=true:=by
 intro u hu
 obtain⟨_,_,rfl⟩:=List.mem_map.1 hu
 rfl
theorem tW (w:World) {ops:Array Oper} {rest:List Oper} {o:Oper} {a:Act} {Q:Exit->Act->World->Prop} (hgd:o.guard=none) (s x:Operand) (t:TypeId)
  (ho:o.op=.call { callee:=.builtin .append,args:=#[s,x],argTypes:=#[t,t] })
  (k:IntKind) (e:TypeId) (base:Nat) (ht:P.underlying t=some (.slice e)) (hi:(P.info? e).map (λi=>(i.zero,i.size,decide (i.bytes<=8)))=some (some (.int k 0),1,true))
  (v:Value) (l:List Nat) (hs:a.eval s=v) (hown:w.ownsRow base e 1 v l.length (fo k l))
  (b ob c:Nat) (r:List Nat) (R:Nat) (hR:r.length=R) (hx:a.eval x=.slice (some ⟨b,ob,none⟩) R c) (hrd:Rd w k (some ⟨b,ob,none⟩) c r)
  (hlen:l.length+r.length<=1000000000) (hbase:base<=w.heap.size)
  (hK:∀(U:List Nat) (A':Option Addr) (c':Nat) (w':World),Bx (U=l++r)->w'.ownsRow base e 1 (.slice A' U.length c') U.length (fo k U)->w.grownBy w' v.ownBlock ->
   wpList P ops Q rest (a.put o.dst (.slice A' U.length c')) w'):wpList P ops Q (o::rest) a w:=by
 obtain⟨i,h2,hzz⟩:=Option.map_eq_some_iff.1 hi
 simp only[Prod.mk.injEq,decide_eq_true_eq]at hzz
 obtain⟨hz,hsz,hb⟩:=hzz
 subst hR
 refine wpList_append_own w hgd s x t ho base e i (.int k 0) 1 i.bytes ht h2 hz hsz rfl rfl (by omega) v l.length (fo k l) hs hown ⟨b,ob,none⟩ r.length c (fo k r) hx (by simp[gA]) hrd.news (wK k r) (by unfold maxLen; omega) ?_ hbase ?_
 ·have:=Nat.mul_le_mul (show l.length+r.length<=1000000000 from hlen) hb
  omega
 ·intro v' w' hown' hg _
  rw[<-yZ,<-List.length_append]at hown'
  have hf:∃A' c',v'=.slice A' (l++r).length c':=by
   rcases hown'.2 with⟨h1,h3⟩|⟨g,cap,cur,h1,_⟩
   ·exact⟨none,0,by rw[h1,h3]⟩
   ·exact⟨_,_,h1⟩
  obtain⟨A',c',hv'⟩:=hf
  rw[hv']at hown' ⊢
  exact hK (l++r) A' c' w' ⟨rfl⟩ hown' hg
end Wx

namespace Wx
open Go
section
variable {P:Program} {ops:Array Oper} {Q:Exit->Act->World->Prop}
def Lq (K:Act->World->Prop) (Q:Exit->Act->World->Prop):Exit->Act->World->Prop
 |.normal,a,w=>K a w
 |.exit n,a,w=>Q (.exit n) a w
 |.goto n,a,w=>Q (.goto n) a w
 |.ret,a,w=>Q .ret a w
 |.panic c,a,w=>Q (.panic c) a w
 |.outgrown,a,w=>Q .outgrown a w
variable {i:Nat}
theorem xm {o:Oper} {K:Act->World->Prop} {a:Act} {w:World} (hi:ops[i]?=some o) (h:wpList P ops (Lq K Q) [o] a w):wpOp P ops Q i K a w:=by
 unfold wpOp
 rw[hi]
 unfold wpList at h
 simp only at h ⊢
 split
 ·next hw=>
  rw[if_pos hw]at h
  rcases h with h|⟨h1,h2⟩
  ·refine .inl ?_
   unfold Oper.wp at *
   generalize (execOp a.eval o).run P w=r at *
   cases r with
   |ok n w'=>
    cases n<;>simp only[Oper.upon,wpList]at h ⊢
    case value u=>exact h
    case skip=>exact h
    case defer d=>exact h
    case enter f args=>
     refine Calls.mono h λe w'' he=>?_
     cases e with
     |returned u=>exact he
     |panicked c=>exact he
     |outgrown=>obtain⟨a',w',h'⟩:=he; exact⟨a',w',h'⟩
    case row row args=>exact Rows.mono h λu w'' he=>he
   |halt x w'=>cases x<;>simp only[Oper.upon]at h ⊢<;>exact h
  ·exact .inr ⟨h1,by obtain⟨a',w',h'⟩:=h2; exact⟨a',w',h'⟩⟩
 ·next hw=>
  rw[if_neg hw]at h
  exact h
def Dr (ops:Array Oper):Bool:=(List.range ops.size).all λi=>(ops[i]?).all λo=>o.after.all λe=>!Region.binds .any e||decide (e.on<i)
theorem yw (h:Dr ops=true) {i:Nat} {o:Oper} (hi:ops[i]?=some o) {e:Edge} (he:e∈o.after) (hb:Region.binds .any e=true):e.on<i:=by
 unfold Dr at h
 rw[List.all_eq_true]at h
 have hlt:i<ops.size:=by
  rcases Nat.lt_or_ge i ops.size with h'|h'
  ·exact h'
  ·rw[Array.getElem?_eq_none h']at hi; cases hi
 have:=h i (List.mem_range.2 hlt)
 rw[hi]at this
 simp only[Option.all_some]at this
 rw[Array.all_eq_true_iff_forall_mem]at this
 have h2:=this e he
 rw[hb]at h2
 simpa using h2
theorem tE (hf:Dr ops=true) {listed:Array Bool} {i:Nat} (hi:i<ops.size) (hl:listed.getD i true=false) (hsz:listed.size=ops.size):Region.ready .any ops listed≠[]:=by
 have key:∀n i,i<=n->i<ops.size->listed.getD i true=false->∃j,j∈Region.ready .any ops listed:=by
  intro n
  induction n with
  |zero=>
   intro i h0 hi hl
   refine⟨i,mem_ready.2 ⟨hl,ops[i],Array.getElem?_eq_getElem hi,λe he hb=>?_⟩⟩
   have:=yw hf (Array.getElem?_eq_getElem hi) he hb
   omega
  |succ n ih=>
   intro i h0 hi hl
   by_cases hall:∀e∈ops[i].after,Region.binds .any e=true->listed.getD e.on false=true
   ·exact⟨i,mem_ready.2 ⟨hl,ops[i],Array.getElem?_eq_getElem hi,hall⟩⟩
   ·simp only[Classical.not_forall]at hall
    obtain⟨e,he,hb,hn⟩:=hall
    have hlt:=yw hf (Array.getElem?_eq_getElem hi) he hb
    refine ih e.on (by omega) (by omega) ?_
    have hs:e.on<listed.size:=by omega
    simp only[Array.getD_eq_getD_getElem?,Array.getElem?_eq_getElem hs,Option.getD_some]at hn ⊢
    simpa using hn
 obtain⟨j,hj⟩:=key i i (Nat.le_refl _) hi hl
 intro h
 rw[h]at hj
 cases hj
def before (ops:Array Oper):Nat->Nat->List Nat
 |0,_=>[]
 |n+1,i=>match ops[i]? with
  |none=>[]
  |some o=>(o.after.toList.filter (λe=>Region.binds .any e)).flatMap λe=>e.on::before ops n e.on
def lP (ops:Array Oper) (F:List Nat):Bool:=(F.all λj=>decide (j<ops.size))&&(List.range ops.size).all λi=>F.contains i||F.all λj=>(before ops ops.size i).contains j
def pA (ops:Array Oper) (listed:Array Bool):Prop:=∀i o,ops[i]?=some o->listed.getD i false=true->∀e∈o.after,Region.binds .any e=true->listed.getD e.on false=true
variable {listed:Array Bool}
theorem mC (hc:pA ops listed):∀(n i:Nat),(∀o,ops[i]?=some o->∀e∈o.after,Region.binds .any e=true->listed.getD e.on false=true)->∀j∈before ops n i,listed.getD j false=true:=by
 intro n
 induction n with
 |zero=>intro i _ j hj; simp[before]at hj
 |succ n ih=>
  intro i h j hj
  unfold before at hj
  cases ho:ops[i]? with
  |none=>rw[ho]at hj; simp at hj
  |some o=>
   rw[ho]at hj
   simp only[List.mem_flatMap,List.mem_filter]at hj
   obtain⟨e,⟨he,hb⟩,hj⟩:=hj
   have hl:=h o ho e (by simpa using he) hb
   rcases List.mem_cons.1 hj with rfl|hj
   ·exact hl
   ·exact ih e.on (λo' uW e' he' hb'=>hc e.on o' uW hl e' he' hb') j hj
theorem pA.set (hc:pA ops listed) {i:Nat} (hr:i∈Region.ready .any ops listed):pA ops (listed.setIfInBounds i true):=by
 intro k o ho hk e he hb
 have up:∀j,listed.getD j false=true->(listed.setIfInBounds i true).getD j false=true:=by
  intro j hj
  by_cases hij:i=j
  ·subst hij
   rcases Nat.lt_or_ge i listed.size with h'|h'
   ·simp[h']
   ·simp[Array.getElem?_eq_none h']at hj
  ·simpa [Array.getElem?_setIfInBounds_ne hij] using hj
 by_cases Pj:i=k
 ·subst Pj
  obtain⟨_,o',uW,hall⟩:=mem_ready.1 hr
  rw[ho]at uW
  injection uW with uW
  subst uW
  exact up _ (hall e he hb)
 ·refine up _ (hc k o ho ?_ e he hb)
  simpa [Array.getElem?_setIfInBounds_ne Pj] using hk
def qU (n:Nat) (F:List Nat) (listed:Array Bool):Prop:=listed.size=n/\∀i,i<n->F.contains i=false->listed.getD i true=false
def fH (n:Nat) (F:List Nat):Array Bool:=((List.range n).map λi=>F.contains i).toArray
theorem rY {n:Nat} {l:Array Bool} (hs:l.size=n) {i:Nat} (hi:i<n) (hl:l.getD i true=false):
  ((List.range n).filter λj=>!((l.setIfInBounds i true).getD j true)).length+1=((List.range n).filter λj=>!(l.getD j true)).length:=by
 have key:∀m,m<=n->((List.range m).filter λj=>!((l.setIfInBounds i true).getD j true)).length+(if i<m then 1 else 0)=((List.range m).filter λj=>!(l.getD j true)).length:=by
  intro m
  induction m with
  |zero=>intro _; simp
  |succ m ih=>
   intro hm
   have:=ih (by omega)
   rw[List.range_succ,List.filter_append,List.filter_append,List.length_append,List.length_append]
   by_cases Dx:i=m
   ·subst Dx
    have e1:(l.setIfInBounds i true).getD i true=true:=by simp[hs,hi]
    have c1:List.filter (λj=>!((l.setIfInBounds i true).getD j true)) [i]=[]:=by rw[List.filter_cons,e1]; rfl
    have c2:List.filter (λj=>!(l.getD j true)) [i]=[i]:=by rw[List.filter_cons,hl]; rfl
    rw[if_neg (Nat.lt_irrefl i)]at this
    rw[c1,c2,if_pos (by omega)]
    simp only[List.length_nil,List.length_cons]
    omega
   ·have e1:(l.setIfInBounds i true).getD m true=l.getD m true:=by simp[Array.getElem?_setIfInBounds_ne Dx]
    simp only[List.filter_cons,List.filter_nil,e1]
    have e2:(if i<m+1 then 1 else 0)=(if i<m then 1 else 0):=by
     by_cases h:i<m
     ·rw[if_pos h,if_pos (by omega)]
     ·rw[if_neg h,if_neg (by omega)]
    rw[e2]
    omega
 have:=key n (Nat.le_refl _)
 rw[if_pos hi]at this
 exact this
theorem Eu (F:List Nat) (hf:Dr ops=true) (hw:lP ops F=true) (I:(Nat->Bool)->Act->World->Prop)
  (hstep:∀i∈F,∀o,ops[i]?=some o->∀L a w,I L a w->L i=false->(∀e∈o.after,Region.binds .any e=true->L e.on=true)->wpOp P ops Q i (I (λj=>if j=i then true else L j)) a w)
  (sK:∀L a w,I L a w->(∀i∈F,L i=true)->∀fuel,((List.range ops.size).filter λj=>!((fH ops.size F).getD j true)).length<=fuel->wpAny P .any ops Q fuel (fH ops.size F) a w):
  ∀(fuel:Nat) (listed:Array Bool) (a:Act) (w:World),qU ops.size F listed->pA ops listed->I (λj=>listed.getD j false) a w ->
   ((List.range ops.size).filter λj=>!(listed.getD j true)).length<=fuel->wpAny P .any ops Q fuel listed a w:=by
 have all:∀(fuel:Nat) (listed:Array Bool) (a:Act) (w:World),qU ops.size F listed->I (λj=>listed.getD j false) a w ->
   ((List.range ops.size).filter λj=>!(listed.getD j true)).length<=fuel->(∀i∈F,listed.getD i false=true)->wpAny P .any ops Q fuel listed a w:=by
  intro fuel listed a w hr hI hc hall
  have e:listed=fH ops.size F:=by
   apply Array.ext
   ·rw[hr.1]; simp[fH]
   ·intro i h1 h2
    have hi:i<ops.size:=by rw[<-hr.1]; exact h1
    simp only[fH,List.getElem_toArray,List.getElem_map,List.getElem_range]
    cases hF:F.contains i with
    |true=>
     have:=hall i (by simpa using hF)
     simpa [h1] using this
    |false=>
     have:=hr.2 i hi hF
     simpa [h1] using this
  have hI':=sK _ a w hI hall
  rw[<-e]at hI'
  exact hI' fuel hc
 have hlt:∀j∈F,j<ops.size:=by
  intro j hj
  simp only[lP,Bool.and_eq_true,List.all_eq_true,decide_eq_true_eq]at hw
  exact hw.1 j hj
 have EB:∀i,i<ops.size->i∈F\/∀j∈F,j∈before ops ops.size i:=by
  intro i hi
  simp only[lP,Bool.and_eq_true,List.all_eq_true,List.mem_range,Bool.or_eq_true,List.contains_iff_mem]at hw
  exact hw.2 i hi
 intro fuel
 induction fuel with
 |zero=>
  intro listed a w hr nR hI hc
  refine all 0 listed a w hr hI hc (λi hi=>?_)
  rcases Nat.lt_or_ge i ops.size with h'|h'
  ·have h0:(List.range ops.size).filter (λj=>!(listed.getD j true))=[]:=List.eq_nil_of_length_eq_zero (by omega)
   have:=List.filter_eq_nil_iff.1 h0 i (List.mem_range.2 h')
   have hsz:i<listed.size:=by rw[hr.1]; exact h'
   simpa [hsz] using this
  ·exfalso
   have:=hlt i hi
   omega
 |succ fuel ih=>
  intro listed a w hr nR hI hc
  by_cases hall:∀i∈F,listed.getD i false=true
  ·exact all _ listed a w hr hI hc hall
  ·have hx:∃i∈F,¬listed.getD i false=true:=by
    apply Classical.byContradiction
    intro h
    exact hall (λi hi=>Classical.byContradiction λh'=>h ⟨i,hi,h'⟩)
   obtain⟨k,hk,Po⟩:=hx
   have hks:=hlt k hk
   have Mh:listed.getD k true=false:=by
    have:k<listed.size:=by rw[hr.1]; exact hks
    simp[this]at Po ⊢
    exact Po
   refine⟨λh=>absurd h (tE hf hks Mh hr.1),λi hi=>?_⟩
   obtain⟨Mg,o,ho,hpre⟩:=mem_ready.1 hi
   have FA:i<ops.size:=by
    rcases Nat.lt_or_ge i ops.size with h'|h'
    ·exact h'
    ·rw[Array.getElem?_eq_none h']at ho; cases ho
   have Ph:i∈F:=by
    apply Classical.byContradiction
    intro hn
    have FI:=(EB i FA).resolve_left hn
    apply hall
    intro j hj
    refine mC nR ops.size i (λo' uW e he hb=>?_) j (FI j hj)
    rw[ho]at uW
    injection uW with uW
    subst uW
    exact hpre e he hb
   have hno:listed.getD i false=false:=by
    have hs:i<listed.size:=by rw[hr.1]; exact FA
    simp[hs]at Mg ⊢
    exact Mg
   refine wpOp_mono (λa' w' h'=>ih _ a' w' ⟨by rw[Array.size_setIfInBounds]; exact hr.1,λj hj hF=>?_⟩ (nR.set hi) ?_ ?_) (hstep i Ph o ho _ a w hI hno (λe he hb=>hpre e he hb))
   ·have hij:i≠j:=by
     rintro rfl
     have:F.contains i=true:=by simpa using Ph
     rw[this]at hF; cases hF
    have:=hr.2 j hj hF
    simpa [Array.getElem?_setIfInBounds_ne hij] using this
   ·have e:(λj=>(listed.setIfInBounds i true).getD j false)=(λj=>if j=i then true else listed.getD j false):=by
     funext j
     by_cases hij:j=i
     ·subst hij
      have:j<listed.size:=by rw[hr.1]; exact FA
      simp[this]
     ·simp[Array.getElem?_setIfInBounds_ne (Ne.symm hij),hij]
    rw[e]; exact h'
   ·have:=rY hr.1 FA Mg
    omega
def wQ (o:Oper):List Nat:=(o.after.toList.filter λe=>Region.binds .any e).map (·.on)
def upd (L:Nat->Bool) (i:Nat):Nat->Bool:=λj=>if j=i then true else L j
theorem Hg (L:Nat->Bool) (i:Nat):upd L i i=true:=if_pos rfl
theorem Hf {L:Nat->Bool} {j:Nat} (h:upd L i j=true) (hne:j≠i):L j=true:=by unfold upd at h; rwa [if_neg hne]at h
def rP (P:Program) (ops:Array Oper) (Q:Exit->Act->World->Prop) (I:(Nat->Bool)->Act->World->Prop):Nat->List Oper->Prop
 |_,[]=>True
 |i,o::os=>(∀L a w,I L a w->L i=false->(∀j∈wQ o,L j=true)->wpList P ops (Lq (I (upd L i)) Q) [o] a w)/\rP P ops Q I (i+1) os
theorem rP.get {I:(Nat->Bool)->Act->World->Prop}:∀{os:List Oper} {i:Nat},rP P ops Q I i os->∀{j:Nat} {o:Oper},os[j]?=some o->∀L a w,I L a w->L (i+j)=false->(∀j∈wQ o,L j=true)->wpList P ops (Lq (I (upd L (i+j))) Q) [o] a w:=by
 intro os
 induction os with
 |nil=>intro i _ j o h; simp at h
 |cons o' os ih=>
  intro i hs j o h
  cases j with
  |zero=>simp at h; subst h; exact hs.1
  |succ j=>have:=ih hs.2 (by simpa using h); rwa [show i+1+j=i+(j+1) by omega]at this
def gX (ops:Array Oper):Bool:=Dr ops&&decide (Region.ready .any ops (Array.replicate ops.size true)=[])
theorem tF {id:Nat} {l:List Oper} (hm:P.follows .mixedOrders=true) (hok:gX l.toArray=true) (I:(Nat->Bool)->Act->World->Prop)
  {a:Act} {w:World} (h0:I (λ_=>false) a w.drew) (hstep:rP P l.toArray Q I 0 l)
  (sK:∀L a w,I L a w->(∀i,i<l.length->L i=true)->wpList P l.toArray Q [] a w):(Code.region id l.toArray true).wp P Q a w:=by
 simp only[gX,Bool.and_eq_true,decide_eq_true_eq]at hok
 obtain⟨h1,h3⟩:=hok
 have hF:fH l.toArray.size (List.range l.toArray.size)=Array.replicate l.toArray.size true:=by
  apply Array.ext
  ·simp[fH]
  ·intro i h1 h2
   have hi:i<l.length:=by simpa [fH] using h1
   simp[fH,hi]
 refine wp_region_any hm (Eu (List.range l.toArray.size) h1 ?_ I (λi hi o ho L a w hI hno hpre=>xm ho ?_) (λL a w hI hall fuel hfl=>?_) l.toArray.size _ a _ ⟨by simp,λi hi _=>(by have hi':i<l.length:=(by simpa using hi); simp[hi'])⟩ ?_ ?_ ?_)
 ·simp only[lP,Bool.and_eq_true,List.all_eq_true,decide_eq_true_eq,List.mem_range,Bool.or_eq_true]
  exact⟨λj hj=>hj,λi hi=>.inl (by simpa using hi)⟩
 ·have uW:l[i]?=some o:=by simpa using ho
  have:=hstep.get uW L a w hI (by rw[Nat.zero_add]; exact hno) (λj hj=>by
   simp only[wQ,List.mem_map,List.mem_filter]at hj
   obtain⟨e,⟨he,hb⟩,rfl⟩:=hj
   exact hpre e (by simpa using he) hb)
  rwa [Nat.zero_add]at this
 ·rw[hF]
  have hq:=sK L a w hI (λi hi=>hall i (List.mem_range.2 (by simpa using hi)))
  cases fuel with
  |zero=>exact⟨h3,hq⟩
  |succ n=>exact⟨λ_=>hq,by rw[h3]; simp⟩
 ·intro i o ho hl
  exfalso
  rcases Nat.lt_or_ge i l.toArray.size with h'|h'
  ·have h2:i<l.length:=by simpa using h'
   simp[h2]at hl
  ·have h2:l.length<=i:=by simpa using h'
   simp[h2]at hl
 ·have e:(λj=>(Array.replicate l.toArray.size false).getD j false)=(λ_=>false):=by
   funext j
   rcases Nat.lt_or_ge j l.length with h'|h'
   ·simp[h']
   ·simp[h']
  rw[e]; exact h0
 ·have:=List.length_filter_le (λj=>!((Array.replicate l.toArray.size false).getD j true)) (List.range l.toArray.size)
  rw[List.length_range]at this
  exact this
end
end Wx
