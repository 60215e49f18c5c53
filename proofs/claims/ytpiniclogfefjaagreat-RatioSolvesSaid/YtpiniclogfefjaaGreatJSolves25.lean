import Derived.Test.YtpiniclogfefjaaGreatJSolves24
import Derived.Laws.IdiomStrings
import Derived.Maps.AppendAt
import Derived.Lib.IndexLaws
import Derived.Lib.Strings
import Derived.WalkSpells
import Derived.Lib.Slices
import Derived.Lib.Walk
import Derived.Lib.Builder
import Derived.Lib.AppendStr
import Derived.Lib.UnsafeStr
import Derived.Lib.MakeNoZero
import Derived.Laws.IdiomCopy
namespace Wx
open Go Go.RowKit

theorem Has.selP {ms:List Nat} {G:List Ent} {i:Nat} {x:Operand} {φ ψ:Prop} {q:Qg} (h:Has ms G i x (Z2 (φ∧ψ) q)) (hφ:φ):Has ms G i x (Z2 ψ q):=
 h.imp fun _ _ k=>⟨fun hψ=>k.1 ⟨hφ,hψ⟩,fun hψ=>k.2 fun hh=>hψ hh.2⟩
theorem alN {A:List Al} {i:Nat} {al:Al} (h:alT i A=some al) (hn:¬al.cond) (hu:(A.filter fun q=>q.tag==some i).length=1):AlNo A i:=by
 obtain⟨⟨k,hk⟩,ht⟩:=alT_get h
 exact .at_ k hk ht hu hn
def tm:Nat→Nat→List Nat
 |0,_=>[]
 |n+1,k=>k::tm n (2*k+1)
section
variable {P:Program} {ops:Array Oper} {ms:List Nat} {c:Cfg} {V:List Vr} {A:List Al} {G:List Ent} {i:Nat}
variable {d:Nat} {x y z:Operand} {ty:TypeId} {pos:String} {aft:Array Edge}
theorem o_and {cb b2:Bool} (h:Has ms G i x (pB cb)) (hy:Has ms G i y (Z2 (cb=true) (pB b2))) (hz:Has ms G i z (pB false)) (hp:Post G i (pB (cb&&b2))):Q0 P ops ms c V A G i ⟨some d,.pick x y z,ty,pos,aft,none⟩:=
 Zt h (fun e=>(hy.sel e).imp fun _ _ k=>by rw[e]; exact k) (fun e=>hz.imp fun _ _ k=>by rw[e]; exact k) hp
theorem o_or {cb b2:Bool} (h:Has ms G i x (pB cb)) (hy:Has ms G i y (pB true)) (hz:Has ms G i z (Z2 (cb=false) (pB b2))) (hp:Post G i (pB (cb||b2))):Q0 P ops ms c V A G i ⟨some d,.pick x y z,ty,pos,aft,none⟩:=
 Zt h (fun e=>hy.imp fun _ _ k=>by rw[e]; exact k) (fun e=>(hz.sel e).imp fun _ _ k=>by rw[e]; exact k) hp
end
end Wx

namespace Wx
open Go Go.RowKit

section
variable {P:Program} {ops:Array Oper} {ms:List Nat} {c:Cfg} {V:List Vr} {A:List Al} {G:List Ent} {i:Nat}
variable {d:Nat} {x y z:Operand} {ty:TypeId} {pos:String} {aft:Array Edge}
theorem hs {p:Qg} (h:Has ms G i x p:=by
 first
 |exact Ya rfl
 |exact .const _
 |exact .func _):Has ms G i x p:=h
theorem hg {p:Qg} (h:Has ms G i x p:=by
 first
 |exact .const _
 |exact .func _
 |exact Has.sel (Ya rfl) (by assumption)
 |exact Has.sel (Ya rfl) (And.left (by assumption))
 |exact Has.selP (Ya rfl) (by assumption)
 |exact Ya rfl):Has ms G i x p:=h
theorem pg {p:Qg} {φ:Prop} (hc:φ) (h:U0 i G=some (Z2 φ p)):Post G i p:=ptS hc h
theorem mv {o:Oper} (h:Q0 P ops ms c V A G i o:=by
 first
 |exact Qx hs (pt rfl)
 |exact Ys hs (pt rfl)):Q0 P ops ms c V A G i o:=h
theorem gmv {φ:Prop} (hc:φ) {o:Oper} (h:φ→Q0 P ops ms c V A G i o:=by
 intro hc
 first
 |exact Qx hg (pg hc rfl)
 |exact Ys hg (pg hc rfl)):Q0 P ops ms c V A G i o:=h hc
theorem nt {o:Oper} (h:Q0 P ops ms c V A G i o:=by
 first
 |exact op_not hs (pt rfl)):Q0 P ops ms c V A G i o:=h
theorem gnt {φ:Prop} (hc:φ) {o:Oper} (h:φ→Q0 P ops ms c V A G i o:=by
 intro hc
 first
 |exact op_not hg (pg hc rfl)):Q0 P ops ms c V A G i o:=h hc
theorem ext {o:Oper} (h:Q0 P ops ms c V A G i o:=by
 first
 |exact Uy hs ex2_0 (pt rfl)
 |exact Uy hs ex2_1 (pt rfl)
 |exact Uy hs ex3_0 (pt rfl)
 |exact Uy hs ex3_1 (pt rfl)
 |exact Uy hs ex3_2 (pt rfl)):Q0 P ops ms c V A G i o:=h
theorem pk {o:Oper} (h:Q0 P ops ms c V A G i o:=by
 first
 |exact o_and hs hs hs (pt rfl)
 |exact o_or hs hs hs (pt rfl)):Q0 P ops ms c V A G i o:=h
theorem gd {j:Nat} {b cb:Bool} {op:Op} {dst:Option Nat} (h:cb=b→Q0 P ops ms c V A G i ⟨dst,op,ty,pos,aft,none⟩) (hq:U0 j G=some (pB cb):=by exact rfl) (hA:¬cb=b→AlNo A i:=by intro hn; first|exact .none rfl|exact alN rfl hn (by kernel_rfl)) (hp:¬cb=b→Post G i (Qi undef):=by intro hn; first|exact ptN hn rfl|exact .none rfl)
  (hj:(G.all fun e=>e.tag != some j||((ms.getD i 0).testBit j&&Qab ms i e.till))=true:=by kernel_rfl) (hb:(V.all fun x=>(x.born != some i&&x.dead != some i)&&x.st.all fun q=>q.1 != i)=true:=by kernel_rfl):Q0 P ops ms c V A G i ⟨dst,op,ty,pos,aft,some (j,b)⟩:=o_if hq h hA hp hj hb
end
section
variable {P:Program} {Q:Exit→Act→World→Prop} {c:Cfg} {V:List Vr} {G:List Ent} {a:Act} {w:World}
theorem Q3 {id:Nat} {l:List Oper} {V1 V2:List Vr} {G1 G2:List Ent} {y:Code} (h:Inv c V [] G Qf a w) (n:Nat) (nv:List Vr) (A1:List Al) (ne:List Ent) (hV:MkV nv V V1) (hG:MkE ne G G1) (hs:Oks P l.toArray (tm n 0) c V1 A1 G1 0 l) (kV:KeepV V1 V2) (kG:KeepE G1 G2) (hk:∀a w,Inv c V2 [] G2 Qf a w→y.wp P Q a w) (hn:Ul nv A1 ne=true:=by kernel_rfl) (hb:regTB c.N l (tm n 0) V1 A1 G1=true:=by kernel_rfl):(Code.seq (Code.region id l.toArray false) y).wp P Q a w:=
 seq_T h nv A1 ne hV hG hn (tm n 0) hb hs kV kG hk
end
end Wx

namespace Wx
open Go Go.RowKit

abbrev Uc (i s:Nat) (p:Qg):Ent:=⟨some i,none,s,p⟩
def CvG (G:List Ent):List Ent→Prop
 |[]=>True
 |e::es=>((e.tag=none∧e.till=none)∧∃p:Qg,entE e.slot G=some p∧∀w v,p w v→e.p w v)∧CvG G es
theorem CvG.ok {G:List Ent}:∀{G':List Ent},CvG G G'→GConv G G'
 |[],_=>trivial
 |_::_,⟨⟨⟨h1,h2⟩,p,h3,h4⟩,h5⟩=>⟨⟨h1,h2,(entE_get h3).elim fun k hk=>⟨k,p,hk,h4⟩⟩,CvG.ok h5⟩
def CvV (V:List Vr):List Vr→Prop
 |[]=>True
 |x::xs=>(∃p:Zz,vrI x.id V=some ⟨x.id,x.slot,none,none,x.kd,x.T,x.n,x.agg,p,[]⟩∧(x.born=none∧x.dead=none∧x.st=[])∧∀F w v,p F w v→x.c0 F w v)∧CvV V xs
theorem CvV.ok {V:List Vr}:∀{V':List Vr},CvV V V'→VConv V V'
 |[],_=>trivial
 |_::_,⟨⟨p,h1,h2,h3⟩,h4⟩=>⟨(vrI_get h1).1.elim fun k hk=>⟨k,_,p,hk,h2,rfl,h3⟩,CvV.ok h4⟩
section
variable {P:Program} {w:World} {fn:Func}
end
section
variable {P:Program} {Q:Exit→Act→World→Prop} {c:Cfg} {V:List Vr} {G:List Ent} {a:Act} {w:World} {fn:Func}
theorem Inv.cv {V':List Vr} {G':List Ent} (h:Inv c V [] G Qf a w) (hV:CvV V V') (hG:CvG G G'):Inv c V' [] G' Qf a w:=h.conv hV.ok hG.ok
theorem srD {id:Nat} {l:List Oper} {V1 V2:List Vr} {G1 G2:List Ent} (h:Inv c V [] G Qf a w) (ms:List Nat) (nv:List Vr) (A1:List Al) (ne:List Ent) (hV:MkV nv V V1) (hG:MkE ne G G1) (hs:Oks P l.toArray ms c V1 A1 G1 0 l) (kV:KeepV V1 V2) (kG:KeepE G1 G2) (hk:∀a w,Inv c V2 [] G2 Qf a w→Q .normal a w) (hn:Ul nv A1 ne=true:=by kernel_rfl) (hb:regDB P c.N l ms V1 A1 G1=true:=by kernel_rfl):(Code.region id l.toArray true).wp P Q a w:=
 sem_D h nv A1 ne hV hG hn ms hb hs kV kG hk
theorem sqD {id:Nat} {l:List Oper} {V1 V2:List Vr} {G1 G2:List Ent} {y:Code} (h:Inv c V [] G Qf a w) (ms:List Nat) (nv:List Vr) (A1:List Al) (ne:List Ent) (hV:MkV nv V V1) (hG:MkE ne G G1) (hs:Oks P l.toArray ms c V1 A1 G1 0 l) (kV:KeepV V1 V2) (kG:KeepE G1 G2) (hk:∀a w,Inv c V2 [] G2 Qf a w→y.wp P Q a w) (hn:Ul nv A1 ne=true:=by kernel_rfl) (hb:regDB P c.N l ms V1 A1 G1=true:=by kernel_rfl):(Code.seq (Code.region id l.toArray true) y).wp P Q a w:=
 seq_D h nv A1 ne hV hG hn ms hb hs kV kG hk
theorem Z3 {id:Nat} {l:List Oper} {V1 V2:List Vr} {G1 G2:List Ent} (h:Inv c V [] G Qf a w) (n:Nat) (nv:List Vr) (A1:List Al) (ne:List Ent) (hV:MkV nv V V1) (hG:MkE ne G G1) (hs:Oks P l.toArray (tm n 0) c V1 A1 G1 0 l) (kV:KeepV V1 V2) (kG:KeepE G1 G2) (hk:∀a w,Inv c V2 [] G2 Qf a w→Q .normal a w) (hn:Ul nv A1 ne=true:=by kernel_rfl) (hb:regTB c.N l (tm n 0) V1 A1 G1=true:=by kernel_rfl):(Code.region id l.toArray false).wp P Q a w:=
 sem_T h nv A1 ne hV hG hn (tm n 0) hb hs kV kG hk
theorem sqD0 {id:Nat} {l:List Oper} {G1 G2:List Ent} {y:Code} (h:Inv c [] [] G Qf a w) (ms:List Nat) (ne:List Ent) (hG:MkE ne G G1) (hs:Oks P l.toArray ms c [] [] G1 0 l) (kG:KeepE G1 G2) (hk:∀a w,Inv c [] [] G2 Qf a w→y.wp P Q a w) (hn:Ul [] [] ne=true:=by kernel_rfl) (hb:regDB P c.N l ms [] [] G1=true:=by kernel_rfl):(Code.seq (Code.region id l.toArray true) y).wp P Q a w:=
 seq_D h [] [] ne .z hG hn ms hb hs .z kG hk
theorem srT0 {id:Nat} {l:List Oper} {G1 G2:List Ent} (h:Inv c [] [] G Qf a w) (n:Nat) (ne:List Ent) (hG:MkE ne G G1) (hs:Oks P l.toArray (tm n 0) c [] [] G1 0 l) (kG:KeepE G1 G2) (hk:∀a w,Inv c [] [] G2 Qf a w→Q .normal a w) (hn:Ul [] [] ne=true:=by kernel_rfl) (hb:regTB c.N l (tm n 0) [] [] G1=true:=by kernel_rfl):(Code.region id l.toArray false).wp P Q a w:=
 sem_T h [] [] ne .z hG hn (tm n 0) hb hs .z kG hk
theorem Qj {id:Nat} {l:List Oper} {G1 G2:List Ent} {y:Code} (h:Inv c [] [] G Qf a w) (n:Nat) (ne:List Ent) (hG:MkE ne G G1) (hs:Oks P l.toArray (tm n 0) c [] [] G1 0 l) (kG:KeepE G1 G2) (hk:∀a w,Inv c [] [] G2 Qf a w→y.wp P Q a w) (hn:Ul [] [] ne=true:=by kernel_rfl) (hb:regTB c.N l (tm n 0) [] [] G1=true:=by kernel_rfl):(Code.seq (Code.region id l.toArray false) y).wp P Q a w:=
 seq_T h [] [] ne .z hG hn (tm n 0) hb hs .z kG hk
end
end Wx

namespace Wx
open Go Go.RowKit

section
variable {P:Program} {ops:Array Oper} {ms:List Nat} {c:Cfg} {V:List Vr} {A:List Al} {G:List Ent} {i:Nat}
variable {d:Nat} {x y z:Operand} {ty:TypeId} {pos:String} {aft:Array Edge}
theorem o_eqB {t u:TypeId} {m n:Int} {k:IntKind} (h1:Has ms G i x (Qi (.int k m))) (h2:Has ms G i y (Qi (.int k n))) (hp:Post G i (pB (m==n))):Q0 P ops ms c V A G i ⟨some d,.binOp .eql t x y u,ty,pos,aft,none⟩:=Q6 h1 h2 (fun _=>by cases k<;>rfl) hp
theorem o_neB {t u:TypeId} {m n:Int} {k:IntKind} (h1:Has ms G i x (Qi (.int k m))) (h2:Has ms G i y (Qi (.int k n))) (hp:Post G i (pB (m != n))):Q0 P ops ms c V A G i ⟨some d,.binOp .neq t x y u,ty,pos,aft,none⟩:=Q6 h1 h2 (fun _=>by cases k<;>rfl) hp
theorem bl {o:Oper} (h:Q0 P ops ms c V A G i o:=by
 first
 |exact o_lss hs hs (pt rfl)
 |exact o_leq hs hs (pt rfl)
 |exact o_gtr hs hs (pt rfl)
 |exact o_geq hs hs (pt rfl)
 |exact o_eqB hs hs (pt rfl)
 |exact o_neB hs hs (pt rfl)
 |exact o_add hs hs (pt rfl)
 |exact o_sub hs hs (pt rfl)
 |exact o_mul hs hs (pt rfl)):Q0 P ops ms c V A G i o:=h
theorem gbl {φ:Prop} (hc:φ) {o:Oper} (h:φ→Q0 P ops ms c V A G i o:=by
 intro hc
 first
 |exact o_lss hg hg (pg hc rfl)
 |exact o_leq hg hg (pg hc rfl)
 |exact o_gtr hg hg (pg hc rfl)
 |exact o_geq hg hg (pg hc rfl)
 |exact o_eqB hg hg (pg hc rfl)
 |exact o_neB hg hg (pg hc rfl)
 |exact o_add hg hg (pg hc rfl)
 |exact o_sub hg hg (pg hc rfl)
 |exact o_mul hg hg (pg hc rfl)):Q0 P ops ms c V A G i o:=h hc
theorem ye {j:Nat} {b:Bool} {op:Op} {dst:Option Nat} (h:Q0 P ops ms c V A G i ⟨dst,op,ty,pos,aft,none⟩) (hq:U0 j G=some (pB b):=by exact rfl) (hj:(G.all fun e=>e.tag != some j||((ms.getD i 0).testBit j&&Qab ms i e.till))=true:=by kernel_rfl):Q0 P ops ms c V A G i ⟨dst,op,ty,pos,aft,some (j,b)⟩:=o_yes hq rfl h hj
theorem lda {T:TypeId} {s n:Nat} {agg:Bool} {v:Vr} {al:Al} {fs:List Fd} {q:Qg} (ht:Ty P T agg n) (ha:alE ms i s A=some al:=by exact rfl) (hv:vrI al.var V=some v:=by exact rfl) (ho:Zi ms i v=true:=by exact rfl) (hkd:v.kd=.ptr:=by exact rfl) (hst:(v.st.all fun q=>(ms.getD i 0).testBit q.1||(ms.getD q.1 0).testBit i)=true:=by exact rfl) (hag:v.agg=true:=by exact rfl)
  (hc:cont (fun j=>(ms.getD i 0).testBit j) v.c0 v.st=pv (pS fs):=by exact rfl) (hq:oneP agg (subF fs al.off n)=some q:=by exact rfl) (hp:Post G i q:=by exact pt rfl) (hcd:al.cond:=by first|trivial|assumption) (hlen:decide (al.off+n≤v.n)=true:=by exact rfl):Q0 P ops ms c V A G i ⟨some d,.load T (.tmp s),ty,pos,aft,none⟩:=
 o_loadAl ha hv ho hkd hst hc ht (by rw[hag]; exact loadP_ok hq) hcd hp hlen
theorem glda {φ:Prop} (hφ:φ) {T:TypeId} {s n:Nat} {agg:Bool} {v:Vr} {al:Al} {fs:List Fd} {q:Qg} (ht:Ty P T agg n) (ha:alE ms i s A=some al:=by exact rfl) (hv:vrI al.var V=some v:=by exact rfl) (ho:Zi ms i v=true:=by exact rfl) (hkd:v.kd=.ptr:=by exact rfl) (hst:(v.st.all fun q=>(ms.getD i 0).testBit q.1||(ms.getD q.1 0).testBit i)=true:=by exact rfl) (hag:v.agg=true:=by exact rfl)
  (hc:cont (fun j=>(ms.getD i 0).testBit j) v.c0 v.st=pv (pS fs):=by exact rfl) (hq:oneP agg (subF fs al.off n)=some q:=by exact rfl) (hp:U0 i G=some (Z2 φ q):=by exact rfl) (hcd:al.cond:=by first|trivial|assumption) (hlen:decide (al.off+n≤v.n)=true:=by exact rfl):Q0 P ops ms c V A G i ⟨some d,.load T (.tmp s),ty,pos,aft,none⟩:=
 o_loadAl ha hv ho hkd hst hc ht (by rw[hag]; exact loadP_ok hq) hcd (ptS hφ hp) hlen
theorem ixL {T E:TypeId} {sz n:Nat} {agg:Bool} {f:Nat→Qg} {m:Int} (ht:SlTy P T E sz) (h:Has ms G i x (Qc sz agg n f):=by exact hs) (hy:Has ms G i y (pI m):=by exact hs) (hp:Post G i (Wr sz agg (f m.toNat)):=by exact pt rfl) (h0:0≤m:=by omega) (h1:m<n:=by omega) (hA:(A.all fun q=>q.tag != some i)=true:=by kernel_rfl):Q0 P ops ms c V A G i ⟨some d,.indexAddr T x y,ty,pos,aft,none⟩:=Jo h hy ht h0 h1 hA hp
theorem Ky {T E:TypeId} {sz n k:Nat} {agg:Bool} {f:Nat→Qg} (ht:SlTy P T E sz) (h:Has ms G i x (Qc sz agg n f):=by exact hs) (hy:Has ms G i y (pI (k:Int)):=by exact hs) (hp:Post G i (Wr sz agg (f k)):=by exact pt rfl) (h1:k<n:=by omega) (hA:(A.all fun q=>q.tag != some i)=true:=by kernel_rfl):Q0 P ops ms c V A G i ⟨some d,.indexAddr T x y,ty,pos,aft,none⟩:=Jo h hy ht (by omega) (by omega) hA (by rw[Int.toNat_natCast]; exact hp)
theorem ce1 {f:FuncId} {ts:Array TypeId} {p p1:Qg} (hn:Zg p) (hc:∀w v1,p1 w v1→Calls P f #[v1] w (Kb p w)) (h1:Has ms G i x p1:=by exact hs) (hp:Post G i p:=by exact pt rfl) (hf:Y0 P f:=by exact fun _ _=>by kernel_rfl):Q0 P ops ms c V A G i ⟨some d,.call ⟨.value (.func f),#[x],ts⟩,ty,pos,aft,none⟩:=Qan hf hn h1 hp hc
theorem ce2 {f:FuncId} {ts:Array TypeId} {p p1 p2:Qg} (hn:Zg p) (hc:∀w v1 v2,p1 w v1→p2 w v2→Calls P f #[v1,v2] w (Kb p w)) (h1:Has ms G i x p1:=by exact hs) (h2:Has ms G i y p2:=by exact hs) (hp:Post G i p:=by exact pt rfl) (hf:Y0 P f:=by exact fun _ _=>by kernel_rfl):Q0 P ops ms c V A G i ⟨some d,.call ⟨.value (.func f),#[x,y],ts⟩,ty,pos,aft,none⟩:=Kf hf hn h1 h2 hp hc
theorem Z0 {f:FuncId} {ts:Array TypeId} {p p1:Qg} (hc:∀M w v1,Mid M w→Box M (fun w=>p1 w v1) w→Calls P f #[v1] w (RetB M p w)) (h1:Has ms G i x p1:=by exact hs) (hp:Post G i p:=by exact pt rfl) (hf:Y0 P f:=by exact fun _ _=>by kernel_rfl):Q0 P ops ms c V A G i ⟨some d,.call ⟨.value (.func f),#[x],ts⟩,ty,pos,aft,none⟩:=Qhn hf h1 hp hc
theorem Ui {f:FuncId} {ts:Array TypeId} {p p1 p2:Qg} (hc:∀M w v1 v2,Mid M w→Box M (fun w=>p1 w v1) w→Box M (fun w=>p2 w v2) w→Calls P f #[v1,v2] w (RetB M p w)) (h1:Has ms G i x p1:=by exact hs) (h2:Has ms G i y p2:=by exact hs) (hp:Post G i p:=by exact pt rfl) (hf:Y0 P f:=by exact fun _ _=>by kernel_rfl):Q0 P ops ms c V A G i ⟨some d,.call ⟨.value (.func f),#[x,y],ts⟩,ty,pos,aft,none⟩:=op_callB2 hf h1 h2 hp hc
theorem gce1 {φ:Prop} (hφ:φ) {f:FuncId} {ts:Array TypeId} {p p1:Qg} (hn:Zg p) (hc:∀w v1,p1 w v1→Calls P f #[v1] w (Kb p w)) (h1:Has ms G i x p1:=by exact hg) (hp:U0 i G=some (Z2 φ p):=by exact rfl) (hf:Y0 P f:=by exact fun _ _=>by kernel_rfl):Q0 P ops ms c V A G i ⟨some d,.call ⟨.value (.func f),#[x],ts⟩,ty,pos,aft,none⟩:=Qan hf hn h1 (ptS hφ hp) hc
theorem gcg1 {φ:Prop} (hφ:φ) {f:FuncId} {ts:Array TypeId} {p p1:Qg} (hc:∀M w v1,Mid M w→Box M (fun w=>p1 w v1) w→Calls P f #[v1] w (RetB M p w)) (h1:Has ms G i x p1:=by exact hg) (hp:U0 i G=some (Z2 φ p):=by exact rfl) (hf:Y0 P f:=by exact fun _ _=>by kernel_rfl):Q0 P ops ms c V A G i ⟨some d,.call ⟨.value (.func f),#[x],ts⟩,ty,pos,aft,none⟩:=Qhn hf h1 (ptS hφ hp) hc
end
end Wx

namespace Wx
set_option maxRecDepth 100000
open Go Go.RowKit Go.Proofs

def X5 (n:Nat):List Nat:=((digs 10 n).map (·+48)).reverse
theorem Qbt:X5 0=[]:=rfl
theorem Qem {n:Nat} (h:0<n):X5 n=X5 (n/10)++[n%10+48]:=by
 unfold X5
 rw[Uw (by omega) h]
 simp
theorem Qfu {n k:Nat} (h:n<10^k):(X5 n).length≤k:=by
 unfold X5
 rw[List.length_reverse,List.length_map]
 exact Qau (by omega) h
theorem Qel {n:Nat} (h:0<n):0<(X5 n).length:=by
 rw[Qem h]; simp

def Qp (l:List Nat):ByteArray:=⟨(l.map UInt8.ofNat).toArray⟩
theorem str_back {w:World} {g o c:Nat} {l:List Nat} (hw:Wf 256 l) (h:∀j,j<l.length→w.cell? ⟨g,o+j,none⟩=some (.int .u8 (l.getD j 0:Nat))) (n:Nat) (hn:n=l.length):
  (convert 133 9 (.slice (some ⟨g,o,none⟩) n c)).run Tryz.prog w=.ok (.string (Qp l)) w:=by
 subst hn
 have hl:l.length=(l.map UInt8.ofNat).length:=by simp
 rw[hl]
 refine run_convert_bytes_back w 133 9 5 ⟨g,o,none⟩ c (l.map UInt8.ofNat) Tryz.underlying133 Tryz.underlying5 Tryz.underlying9 (fun j hj=>?_)
 rw[← hl]at hj
 have h1:=h j hj
 have h2:=hw.get hj
 rw[List.getD_eq_getElem?_getD,List.getElem?_eq_getElem hj,Option.getD_some]at h1
 rw[show(⟨g,o,none⟩:Addr).add j=⟨g,o+j,none⟩ by simp[Addr.add],h1,List.getElem_map,UInt8.toNat_ofNat_of_lt' h2]

set_option maxHeartbeats 1000000 in
theorem decimal_num (w:World) (n:Nat) (hn:n<Qa):Calls Tryz.prog 110 #[.int .u64 (n:Int)] w (Jc w (.string (Qp (X5 n)))):=by
 have HL:=bx (Qfu (n:=n) (k:=20) (Nat.lt_of_lt_of_le hn (by unfold Qa; decide)))
 have HN:=bx hn
 clear hn
 go_enter Tryz.func110,Tryz.ntmps110
 go_wp2_with fail
 have hrow:=Row.new w .u8 161 (List.replicate 20 0)
 have hb0:Below w.heap.size w (w.alloc (.cells (J9 .u8 (List.replicate 20 0)).toArray 161)):=Below.alloc (Below.refl _ _) (Nat.le_refl _) _
 change (Code.wp _ _ _ _ (w.alloc (.cells (J9 .u8 (List.replicate 20 0)).toArray 161)))
 generalize w.alloc (.cells (J9 .u8 (List.replicate 20 0)).toArray 161)=w1 at *
 go_loopw [0,4] (fun s0 s4 wr=>∃(m at_:Nat) (L:List Nat),s0=.int .u64 (m:Int)∧s4=.int .i64 (at_:Int)∧at_≤20∧Bx (L.length=20)∧Wf 256 L∧Row wr .u8 161 w.heap.size L∧Below w.heap.size w wr∧Bx (X5 n=X5 m++L.drop at_)∧Bx (m<Qa)) (fun s0 _ _=>(intOf s0).toNat)
 case atStart=>exact⟨n,20,List.replicate 20 0,rfl,rfl,Nat.le_refl _,bx (by simp),Wf.replicate (by omega) _,hrow,hb0,bx (by simp),HN⟩
 case round=>
  clear hrow hb0
  obtain⟨m,at_,L,rfl,rfl,hat,HLL,hwL,hr,hbl,HD,HM⟩:=hrel
  rcases Nat.eq_zero_or_pos m with rfl|hm0
  ·have hai:(at_:Int)≤20:=by omega
   have hai0:(0:Int)≤(at_:Int):=by omega
   have hu:=Tryz.underlying161
   have hdn:X5 n=L.drop at_:=HD.out
   have hwd:Wf 256 (X5 n):=by rw[hdn]; exact hwL.drop _
   have hln:20-at_=(X5 n).length:=by rw[hdn,List.length_drop,HLL.out]
   have hcs:∀j,j<(X5 n).length→wr.cell? ⟨w.heap.size,at_+j,none⟩=some (.int .u8 ((X5 n).getD j 0:Nat)):=fun j hj=>by
    rw[hr.cell (i:=at_+j) (by rw[HLL.out]; omega),hdn]
    simp[List.getD_eq_getElem?_getD]
   have hcv:=str_back (c:=20-at_) hwd hcs _ hln
   have HLN:=bx hln
   clear hdn hwd hcs hln HD
   by_cases h20:at_=20
   ·subst h20
    have hcv0:=str_back (w:=wr) (g:=w.heap.size) (o:=0) (c:=0) (Wf.nil 256) (fun j hj=>absurd hj (by simp)) 0 rfl
    have hE:X5 n=[]:=List.eq_nil_of_length_eq_zero (by have:=HLN.out; omega)
    clear hcv
    go_wp2
    go_ret
    rw[hE]
    exact⟨rfl,hbl⟩
   ·have hne:¬20=at_:=fun h=>h20 h.symm
    go_wp2
    go_ret
    exact⟨rfl,hbl⟩
  ·have hat0:1≤at_:=by
    have h1:=congrArg List.length HD.out
    have h2:=Qel hm0
    have h3:=HL.out
    have h4:=HLL.out
    rw[List.length_append,List.length_drop]at h1
    omega
   obtain⟨k,rfl⟩:∃k,at_=k+1:=⟨at_-1,by omega⟩
   obtain⟨vo,hco,HVO⟩:=hr.get (i:=k) (by have:=HLL.out; omega)
   have hcf:=hr.frozen k
   have hk1:(k:Int)<20:=by omega
   have hk0:(0:Int)≤(k:Int):=by omega
   have hm1:(1:Int)≤(m:Int):=by omega
   have hw:IntKind.u64.wrap ((m:Int)/10)=((m/10:Nat):Int):=by
    have:=HM.out
    rw[wrap_u64 (by omega) (by unfold Qa at this; omega)]; omega
   have hv:48+(m:Int)%10=((m%10+48:Nat):Int):=by omega
   have HW:=bx hw
   have HV:=bx hv
   clear hw hv
   go_wp2_with fail
   rw[HW.out,HV.out]
   refine⟨⟨m/10,k,L.set k (m%10+48),rfl,rfl,by omega,bx (by rw[List.length_set]; exact HLL.out),hwL.set (by omega),hr.set k _,hbl.setCell (Nat.le_refl _) _,bx ?_,bx (Nat.lt_of_le_of_lt (Nat.div_le_self _ _) HM.out)⟩,by simp[intOf]; omega⟩
   rw[HD.out,Qem hm0,Qdr (by have:=HLL.out; omega),List.append_assoc]
   rfl
end Wx

namespace Wx
open Go Go.RowKit Go.Proofs

theorem baLoop (bs:ByteArray):∀(k i:Nat) (r:List UInt8),bs.size-i=k→ByteArray.toList.loop bs i r=r.reverse++bs.data.toList.drop i:=by
 intro k
 induction k with
 |zero=>
  intro i r h
  unfold ByteArray.toList.loop
  rw[if_neg (by omega),List.drop_eq_nil_of_le (by show bs.data.toList.length≤i; rw[Array.length_toList]; show bs.size≤i; omega),List.append_nil]
 |succ k ih=>
  intro i r h
  have hi:i<bs.data.toList.length:=by rw[Array.length_toList]; show i<bs.size; omega
  unfold ByteArray.toList.loop
  rw[if_pos (by omega),ih (i+1) _ (by omega),List.drop_eq_getElem_cons hi,List.reverse_cons,List.append_assoc]
  have hx:bs.get! i=bs.data.toList[i]:=by
   show bs.data[i]! = _
   rw[getElem!_pos bs.data i (by simpa using hi),Array.getElem_toList]
  rw[hx]; rfl
theorem baToList (bs:ByteArray):bs.toList=bs.data.toList:=by
 unfold ByteArray.toList
 rw[baLoop bs _ 0 [] rfl]; rfl
theorem Ku (l:List Nat):(Qp l).toList=l.map UInt8.ofNat:=by rw[baToList]; simp[Qp]
theorem Xs (l:List Nat):(Qp l).size=l.length:=by simp[Qp,ByteArray.size]
theorem Qbh (l:List Nat) (a b:Nat):(Qp l).extract a b=Qp ((l.take b).drop a):=by
 apply ByteArray.ext
 rw[ByteArray.data_extract]
 simp[Qp,List.map_drop,List.map_take,List.drop_take]
theorem strOf_data {l:List Nat} (hw:Wf 256 l) {j:Nat} (hj:j<l.length):∃h:j<(Qp l).data.size,((Qp l).data[j]'h).toNat=l.getD j 0:=by
 refine⟨by simpa [Qp] using hj,?_⟩
 have h2:=hw.get hj
 rw[List.getD_eq_getElem?_getD,List.getElem?_eq_getElem hj,Option.getD_some]
 simp only[Qp,List.getElem_toArray,List.getElem_map]
 exact UInt8.toNat_ofNat_of_lt' h2
theorem str_bytes (w:World) {l:List Nat} (hw:Wf 256 l) (hl:l.length≤1000000000):∃c w',(convert 9 133 (.string (Qp l))).run Tryz.prog w=.ok (.slice (some ⟨w.heap.size,0,none⟩) l.length c) w'∧Rd w' .u8 (some ⟨w.heap.size,0,none⟩) c l∧Below w.heap.size w w':=by
 have hr:=run_bytes_of_string w 9 133 5 (Qp l) Tryz.underlying9 Tryz.underlying133 Tryz.underlying5
 have hsz:=Xs l
 have g1:=grownCap_ge w (Qp l).size 0 5
 have g2:=grownCap_le_maxLen w (Qp l).size 0 5 (by rw[hsz]; unfold maxLen; omega)
 generalize grownCap w (Qp l).size 0 5=c at *
 rw[hsz]at hr g1
 refine⟨c,_,hr,⟨g1,g2,fun _=>⟨_,_,rfl,fun i hi=>?_⟩⟩,(Below.refl _ _).drew.alloc (by simp) _⟩
 obtain⟨h,e⟩:=strOf_data hw hi
 have hc:=World.cell?_alloc_mark w.drew (bytesRow (Qp l) c) 5 ((bytesRow (Qp l) c).size,(bytesRow (Qp l) c).size+1) i
 rw[Nat.zero_add,← e]
 exact hc.trans (bytesRow_at _ _ _ h)
end Wx

namespace Wx
set_option maxRecDepth 100000
open Go Go.RowKit Go.Proofs

def isDig (x:Nat):Bool:=decide (48≤x)&&decide (x≤57)
def K0 (l:List Nat):Bool:=l.all isDig&&(decide (l=[48])||(decide (l≠[])&&decide (l.getD 0 0≠48)))

theorem Qib {l:List Nat} {i x:Nat} (_h:∀j,j<i→isDig (l.getD j 0)=true) (hi:i<l.length) (hx:l.getD i 0=x) (hb:x<48∨57<x):K0 l=false:=by
 have:l.all isDig=false:=by
  rw[List.all_eq_false]
  refine⟨l[i],List.getElem_mem hi,?_⟩
  rw[List.getD_eq_getElem?_getD,List.getElem?_eq_getElem hi,Option.getD_some]at hx
  rw[hx]; unfold isDig; simp; omega
 unfold K0
 rw[this]; rfl

theorem Qfp {l r:List Nat} (hl:Wf 256 l) (hr:Wf 256 r) (h:(Qp l).toList=(Qp r).toList):l=r:=by
 have e:∀{l:List Nat},Wf 256 l→((Qp l).data.toList.map UInt8.toNat)=l:=by
  intro l hl
  simp only[Qp,List.toList_toArray,List.map_map]
  conv=>rhs; rw[← List.map_id l]
  apply List.map_congr_left
  intro x hx
  exact UInt8.toNat_ofNat_of_lt' (hl x hx)
 have h2:(Qp l).data.toList=(Qp r).data.toList:=by rw[← baToList,← baToList]; exact h
 rw[← e hl,← e hr,h2]

set_option maxHeartbeats 1000000 in
theorem Qdy (w:World) (l:List Nat) (hw:Wf 256 l) (hl:l.length≤1000000000):Calls Tryz.prog 74 #[.string (Qp l)] w (Jc w (.bool (K0 l))):=by
 obtain⟨c,w1,hcv,hrd,hb⟩:=str_bytes w hw hl
 go_enter Tryz.func74,Tryz.ntmps74
 go_wp2_with fail
 go_loop [8] (fun s8=>∃i:Nat,i≤l.length∧s8=.int .i64 (i:Int)∧Bx (∀j,j<i→isDig (l.getD j 0)=true)) (fun s8=>(l.length-(intOf s8).toNat))
 case atStart=>exact⟨0,Nat.zero_le _,rfl,bx (fun j hj=>absurd hj (by omega))⟩
 case round=>
  obtain⟨i,hi,rfl,HD⟩:=hrel
  rcases Nat.lt_or_ge i l.length with hlt|hge
  ·obtain⟨b,o,vx,hA,hcx,HVX⟩:=hrd.get (i:=i) hlt
   injection hA with hA
   injection hA with h1 h2 h3
   subst h1 h2
   clear h3
   have hi0:(0:Int)≤(i:Int):=by omega
   have hi1:(i:Int)<(l.length:Int):=by omega
   rw[Nat.zero_add]at hcx
   have hgd:l.getD i 0=vx:=by rw[List.getD_eq_getElem?_getD,HVX.out]; rfl
   have HGD:=bx hgd
   clear hgd
   by_cases h1:vx<48
   ·have h1':(vx:Int)<48:=by omega
    go_wp2
    go_ret
    exact⟨Qe4 (Qib HD.out hlt HGD.out (by omega)).symm,hb⟩
   ·have h1':¬((vx:Int)<48):=by omega
    by_cases h2:vx≤57
    ·have h2':(vx:Int)≤57:=by omega
     go_wp2
     refine⟨⟨i+1,by omega,by go_num,bx (fun j hj=>?_)⟩,by simp[intOf]; omega⟩
     rcases Nat.lt_or_ge j i with h|h
     ·exact HD.out j h
     ·obtain rfl:j=i:=by omega
      rw[HGD.out]; unfold isDig; simp; omega
    ·have h2':(57:Int)<(vx:Int):=by omega
     go_wp2
     go_ret
     exact⟨Qe4 (Qib HD.out hlt HGD.out (by omega)).symm,hb⟩
  ·obtain rfl:i=l.length:=by omega
   have hall:l.all isDig=true:=by
    rw[List.all_eq_true]
    intro x hx
    obtain⟨j,hj,rfl⟩:=List.getElem_of_mem hx
    have:=HD.out j hj
    rwa [List.getD_eq_getElem?_getD,List.getElem?_eq_getElem hj,Option.getD_some]at this
   have hval:K0 l=(decide (l=[48])||(decide (l≠[])&&decide (l.getD 0 0≠48))):=by unfold K0; rw[hall]; rfl
   have HVL:=bx hval
   clear HD hval hall hge hi
   by_cases h0:l=[48]
   ·have ht:(Qp l).toList=[48]:=by rw[Ku,h0]; rfl
    have HR:=bx (show(decide (l=[48])||(decide (l≠[])&&decide (l.getD 0 0≠48)))=true by rw[decide_eq_true h0]; rfl)
    clear h0
    go_wp2
    go_ret
    exact⟨Qe4 (by rw[HVL.out,HR.out]),hb⟩
   ·have ht:¬(Qp l).toList=[48]:=fun h=>h0 (Qfp hw (by intro x hx; simp at hx; omega) (by rw[h,Ku]; rfl))
    by_cases h1:l=[]
    ·have hn:(Qp l).toList=[]:=by rw[Ku,h1]; rfl
     have HR:=bx (show(decide (l=[48])||(decide (l≠[])&&decide (l.getD 0 0≠48)))=false by subst h1; rfl)
     clear h0 h1
     go_wp2
     go_ret
     exact⟨Qe4 (by rw[HVL.out,HR.out]),hb⟩
    ·have hn:¬(Qp l).toList=[]:=fun h=>h1 (Qfp hw (Wf.nil _) (by rw[h,Ku]; rfl))
     have hs:0<(Qp l).size:=by rw[Xs]; exact List.length_pos_iff.2 h1
     obtain⟨x,hx⟩:∃x,(Qp l)[0].toNat=x:=⟨_,rfl⟩
     have hx':l.getD 0 0=x:=by
      obtain⟨_,e⟩:=strOf_data hw (List.length_pos_iff.2 h1)
      rw[← hx,← e]; rfl
     have HR:=bx (show(decide (l=[48])||(decide (l≠[])&&decide (l.getD 0 0≠48)))=((x:Int) != 48) by
      rw[decide_eq_false h0,decide_eq_true h1,hx']
      by_cases h:x=48
      ·subst h; rfl
      ·rw[decide_eq_true h]; simp; omega)
     clear h0 h1 hx'
     go_wp2
     go_ret
     refine⟨Qe4 ?_,hb⟩
     rw[HVL.out,HR.out]
     rw[show((Qp l).toList==[48])=false from beq_eq_false_iff_ne.2 ht,show(Qp l).toList.isEmpty=false by simpa using hn]
     rfl
end Wx

namespace Wx
set_option maxRecDepth 100000
open Go Go.RowKit Go.Proofs

def Y1 (l:List Nat):List Nat:=l.takeWhile (fun x=>decide (x≠47))
def Wi (l:List Nat):List Nat:=l.drop ((Y1 l).length+1)
def Qba (l:List Nat):Int:=if 47∈l then((Y1 l).length:Int)else -1
theorem Qf0 {l:List Nat} (h:¬47∈l):Qba l = -1:=if_neg h
theorem befS_none {l:List Nat} (h:¬47∈l):Y1 l=l:=by
 unfold Y1
 induction l with
 |nil=>rfl
 |cons x l ih=>
  have h1:x≠47:=by rintro rfl; exact h (by simp)
  rw[List.takeWhile_cons,ih (fun hm=>h (List.mem_cons_of_mem _ hm))]
  simp[h1]
theorem aftS_none {l:List Nat} (h:¬47∈l):Wi l=[]:=by
 unfold Wi
 rw[befS_none h]
 exact List.drop_eq_nil_of_le (by omega)
theorem befS_lt {l:List Nat} (h:47∈l):(Y1 l).length<l.length:=by
 unfold Y1
 induction l with
 |nil=>simp at h
 |cons x l ih=>
  rw[List.takeWhile_cons]
  by_cases hx:x=47
  ·subst hx; simp
  ·have:47∈l:=by simpa [Ne.symm hx] using h
   have:=ih this
   simp[hx]; simpa using this
theorem befS_take (l:List Nat):l.take (Y1 l).length=Y1 l:=by
 have:Y1 l <+: l:=List.takeWhile_prefix _
 exact(List.prefix_iff_eq_take.1 this).symm
theorem u8ofNat_eq {a b:Nat} (ha:a<256) (hb:b<256):(UInt8.ofNat a=UInt8.ofNat b)↔a=b:=by
 constructor
 ·intro h
  have:=congrArg UInt8.toNat h
  rwa [UInt8.toNat_ofNat_of_lt' ha,UInt8.toNat_ofNat_of_lt' hb]at this
 ·rintro rfl; rfl
theorem slash_idx {l:List Nat} (hw:Wf 256 l):Lib.indexByte (l.map UInt8.ofNat) 47=Qba l:=by
 induction l with
 |nil=>rfl
 |cons x l ih=>
  have hx:=hw x (by simp)
  have ih:=ih (fun y hy=>hw y (List.mem_cons_of_mem _ hy))
  rw[List.map_cons]
  unfold Lib.indexByte
  by_cases h:x=47
  ·subst h
   rw[if_pos (by decide)]
   simp[Qba,Y1]
  ·have h1:(UInt8.ofNat x==(47:UInt8))=false:=by
    rw[beq_eq_false_iff_ne]
    intro e
    exact h ((u8ofNat_eq hx (by omega:47<256)).1 e)
   rw[h1,ih]
   by_cases hm:47∈l
   ·have e1:Qba l=((Y1 l).length:Int):=if_pos hm
    have e2:Qba (x::l)=((Y1 (x::l)).length:Int):=if_pos (List.mem_cons_of_mem _ hm)
    have e3:Y1 (x::l)=x::Y1 l:=by unfold Y1; rw[List.takeWhile_cons]; simp[h]
    rw[e1,e2,e3,List.length_cons]
    have:((((Y1 l).length:Int)) == -1)=false:=beq_eq_false_iff_ne.2 (by omega)
    rw[this]
    simp
   ·have e1:=Qf0 hm
    have e2:Qba (x::l) = -1:=Qf0 (by simp[hm,Ne.symm h])
    rw[e1,e2]; rfl
theorem slashI_some {l:List Nat} (h:47∈l):Qba l=((Y1 l).length:Int):=if_pos h

theorem Qii (w:World) (l:List Nat) (hw:Wf 256 l):Calls Tryz.prog 129 #[.string (Qp l),.string ⟨#[47]⟩] w fun e w'=>e=.returned (.int .i64 (Qba l))∧w=w':=by
 have hc:=fun w=>Tryz.stringslite_IndexByte (Qp l) 47 w
 have hs:Lib.indexByte (Qp l).data.toList (47:Int).toNat.toUInt8=Qba l:=slash_idx hw
 rw[hs]at hc
 have HC:=bx hc
 clear hc hs
 by_cases h0:l=[47]
 ·have hb:([47]==(Qp l).toList)=true:=by rw[Ku,h0]; rfl
  have HE:=bx (show Qba l=0 by rw[h0]; rfl)
  clear h0
  go_enter Tryz.func129,Tryz.ntmps129
  go_wp2
  go_ret
  exact⟨Up HE.out.symm,rfl⟩
 ·have hb:([47]==(Qp l).toList)=false:=beq_eq_false_iff_ne.2 (fun h=>h0 (Qfp hw (by intro x hx; simp at hx; omega) (by rw[← h,Ku]; rfl)))
  clear h0
  go_enter Tryz.func129,Tryz.ntmps129
  go_wp2_with (go_at_call 141; refine(HC.out _).mono ?_; rintro e w' ⟨rfl,rfl⟩)
  go_ret
  exact⟨rfl,rfl⟩

theorem strOf_nil:Qp []=⟨#[]⟩:=rfl

theorem lcut_slash (w:World) (l:List Nat) (hw:Wf 256 l) (hl:l.length≤1000000000):Calls Tryz.prog 108 #[.string (Qp l),.string ⟨#[47]⟩] w (Jc w (.tuple #[.string (Qp (Y1 l)),.string (Qp (Wi l)),.bool (decide (47∈l))])):=by
 by_cases h:47∈l
 ·have hi:=Qii w l hw
  rw[slashI_some h]at hi
  have h1:=befS_lt h
  have h2:=Xs l
  have e1:(Qp l).extract 0 (Y1 l).length=Qp (Y1 l):=by
   rw[Qbh,List.drop_zero,befS_take]
  have e2:(Qp l).extract ((Y1 l).length+1) (Qp l).size=Qp (Wi l):=by
   rw[Qbh,h2,List.take_length]; rfl
  have HD:=bx (decide_eq_true h)
  have HI:=bx hi
  clear hi h
  have E1:=bx e1
  have E2:=bx e2
  clear e1 e2
  have hq1:((Y1 l).length:Int)+1≤((Qp l).size:Int):=by omega
  have hq2:((Y1 l).length:Int)≤((Qp l).size:Int):=by omega
  have hq3:IntKind.i64.wrap (((Y1 l).length:Int)+1)=((Y1 l).length:Int)+1:=IntWalk.i64_in _ (by omega)
  have hq4:(((Y1 l).length:Int)+1).toNat=(Y1 l).length+1:=by omega
  clear h2
  go_enter Tryz.func108,Tryz.ntmps108
  go_wp2_with (go_at_call 129; refine(HI.out).mono ?_; rintro e w' ⟨rfl,rfl⟩)
  go_quiet (fail)
  go_wp2
  go_ret3
  rw[E1.out,E2.out,HD.out]
  exact⟨rfl,below_drewN (Below.refl _ _) _⟩
 ·have hi:=Qii w l hw
  rw[Qf0 h]at hi
  rw[befS_none h,aftS_none h,strOf_nil]
  have HD:=bx (decide_eq_false h)
  have HI:=bx hi
  clear hi h
  go_enter Tryz.func108,Tryz.ntmps108
  go_wp2_with (go_at_call 129; refine(HI.out).mono ?_; rintro e w' ⟨rfl,rfl⟩)
  go_ret3
  rw[HD.out]
  exact⟨rfl,Below.refl _ _⟩

theorem cut_slash (w:World) (l:List Nat) (hw:Wf 256 l) (hl:l.length≤1000000000):Calls Tryz.prog 73 #[.string (Qp l),.string ⟨#[47]⟩] w (Jc w (.tuple #[.string (Qp (Y1 l)),.string (Qp (Wi l)),.bool (decide (47∈l))])):=by
 have hc:=lcut_slash w l hw hl
 go_enter Tryz.func73,Tryz.ntmps73
 go_wp2_with (go_at_call 108; refine hc.mono ?_; rintro e w1 ⟨rfl,hb⟩)
 go_ret3
 exact⟨rfl,hb⟩

def negS (l:List Nat):Bool:=decide (l.head?=some 45)
def X7 (l:List Nat):List Nat:=if l.head?=some 45 then l.tail else l
theorem Qhh {l:List Nat} (hw:Wf 256 l):Lib.hasPrefix (l.map UInt8.ofNat) [45]=negS l:=by
 cases l with
 |nil=>rfl
 |cons x l=>
  have hx:=hw x (by simp)
  unfold Lib.hasPrefix negS
  rw[List.map_cons,List.head?_cons]
  by_cases h:x=45
  ·subst h; rfl
  ·have:((45:UInt8)==UInt8.ofNat x)=false:=by
    rw[beq_eq_false_iff_ne]
    intro e
    exact h ((u8ofNat_eq hx (by omega:45<256)).1 e.symm)
   simp[List.isPrefixOf,this,h]
theorem minus_trim {l:List Nat} (hw:Wf 256 l):(⟨(Lib.trimPrefix (l.map UInt8.ofNat) [45]).toArray⟩:ByteArray)=Qp (X7 l):=by
 unfold Lib.trimPrefix
 rw[Qhh hw]
 unfold X7 negS
 by_cases h:l.head?=some 45
 ·rw[if_pos h,decide_eq_true h,if_pos rfl]
  cases l with
  |nil=>simp at h
  |cons x l=>rfl
 ·rw[if_neg h,decide_eq_false h]
  simp[Qp]
theorem Qfh (w:World) (l:List Nat) (hw:Wf 256 l):Calls Tryz.prog 72 #[.string (Qp l),.string ⟨#[45]⟩] w fun e w'=>e=.returned (.tuple #[.string (Qp (X7 l)),.bool (negS l)])∧w=w':=by
 refine(Tryz.strings_CutPrefix (Qp l) ⟨#[45]⟩ w).mono ?_
 rintro e w' ⟨rfl,rfl⟩
 refine⟨?_,rfl⟩
 have h1:(Qp l).data.toList=l.map UInt8.ofNat:=by simp[Qp]
 rw[h1]
 have h2:(⟨#[45]⟩:ByteArray).data.toList=[45]:=rfl
 rw[h2,minus_trim hw,Qhh hw]
end Wx

namespace Wx
set_option maxRecDepth 100000
open Go Go.RowKit Go.Proofs

theorem szBuilder:(Tryz.prog.info? 141).map (·.size)=some 2:=by kernel_rfl
theorem liesBuilder:liesAt Tryz.prog Tryz.prog.depth 141 (2/Tryz.prog.cellsOf 141) 0 141 1=true:=by kernel_rfl
theorem infoByte:(Tryz.prog.info? 5).map (fun i=>(i.zero,i.size,i.bytes))=some (some (.int .u8 0),1,1):=by kernel_rfl

set_option maxHeartbeats 1000000 in
theorem copyCheck_used (b:Nat) (w:World) (h0:w.cell? ⟨b,0,none⟩=some (.pointer (some ⟨b,0,none⟩))):
  Calls Tryz.prog 135 #[.pointer (some ⟨b,0,none⟩)] w fun e w'=>e=.returned (.tuple #[])∧w'=w:=by
 obtain⟨j,hj,_⟩:=Option.map_eq_some_iff.1 szBuilder
 go_enter Tryz.func135,Tryz.ntmps135
 go_wp2
 rw[Lib.run_neq_ptr_same w _ Tryz.underlying139 hj]
 go_wp2
 go_end0
 exact⟨rfl,rfl⟩

set_option maxHeartbeats 1000000 in
theorem Qis (b:Nat) (w:World) (h0:w.cell? ⟨b,0,none⟩=some (.pointer none)) (hsh:w.shape? b=some (141,2)) (hfz:w.frozen? ⟨b,0,none⟩=false):
  Calls Tryz.prog 135 #[.pointer (some ⟨b,0,none⟩)] w fun e w'=>e=.returned (.tuple #[])∧w'=w.setCell ⟨b,0,none⟩ (.pointer (some ⟨b,0,none⟩)):=by
 obtain⟨j,hj,hjs⟩:=Option.map_eq_some_iff.1 szBuilder
 go_enter Tryz.func135,Tryz.ntmps135
 go_wp2
 rw[Lib.run_to_unsafe w ⟨b,0,none⟩ Tryz.underlying139 Tryz.underlying173 hj (by rw[hjs]; decide) hsh (Nat.zero_lt_succ 1)]
 simp only[Result.andThen]
 rw[Oper.upon_value]
 go_wp2
 rw[run_callFunc_extern Tryz.func147 (by kernel_rfl) (by kernel_rfl) (by kernel_rfl) (e:=Extern.AbiNoEscape.same) (by kernel_rfl)]
 rw[Lib.run_noEscape]
 simp only[Result.andThen]
 rw[Oper.upon_value]
 go_wp2
 rw[Lib.run_from_unsafe w ⟨b,0,none⟩ Tryz.underlying173 Tryz.underlying139 hj hsh liesBuilder]
 simp only[Result.andThen]
 rw[Oper.upon_value]
 go_wp2
 go_end0
 exact⟨rfl,rfl⟩

theorem copyCheck_any (B b:Nat) (bs:List Value) (w:World) (h:Lib.IsBuilder 141 5 B b bs w):
  Calls Tryz.prog 135 #[.pointer (some ⟨b,0,none⟩)] w fun e w'=>e=.returned (.tuple #[])∧(Lib.BuilderAt 141 5 B b (.pointer (some ⟨b,0,none⟩)) bs w'∧Below B w w'):=by
 rcases h with h|h
 ·refine(Qis b w h.cell0 h.shape h.frozen0).mono ?_
  rintro e w' ⟨rfl,rfl⟩
  exact⟨rfl,h.used _,(Below.refl B w).setCell (p:=⟨b,0,none⟩) h.1 _⟩
 ·refine(copyCheck_used b w h.cell0).mono ?_
  rintro e w' ⟨rfl,rfl⟩
  exact⟨rfl,h,Below.refl B _⟩

set_option maxHeartbeats 2000000 in
theorem Qit (B b:Nat) (bs:List Value) (s:ByteArray) (w:World) (h:Lib.IsBuilder 141 5 B b bs w) (hlen:bs.length+s.size≤140737488355328) (hBw:B≤w.heap.size):
  Calls Tryz.prog 112 #[.pointer (some ⟨b,0,none⟩),.string s] w fun e w'=>e=.returned (.tuple #[.int .i64 s.size,.nilIface])∧(Lib.BuilderAt 141 5 B b (.pointer (some ⟨b,0,none⟩)) (bs++Lib.strCells s) w'∧Below B w w'):=by
 obtain⟨i0,hi,hz0,hz1,hz2⟩:=info_parts infoByte
 go_enter Tryz.func112,Tryz.ntmps112
 go_wp2_with (go_at_call 135; refine(copyCheck_any B b bs _ h).mono ?_)
 rintro e w1 ⟨rfl,h1,hb1⟩
 obtain⟨hB,v,hbk,hown,hne⟩:=h1
 have c0:w1.cell? ⟨b,0,none⟩=some (.pointer (some ⟨b,0,none⟩)):=by rw[Lib.cell_of_heap hbk]; rfl
 have c1:w1.cell? ⟨b,1,none⟩=some v:=by rw[Lib.cell_of_heap hbk]; rfl
 go_wp2_with (at_builtin; refine Lib.wpList_append_own_string _ rfl _ _ 133 9 rfl B 5 i0 Tryz.underlying133 Tryz.underlying9 hi hz0 hz1 hz2 _ _ _ rfl hown s rfl ?c3 ?c4 ?c5 ?_)
 case c3=>unfold maxLen; omega
 case c4=>omega
 case c5=>have:=hb1.size; omega
 intro v' w2 hown' hgrow _
 have hlt:b<w1.heap.size:=by
  rcases Nat.lt_or_ge b w1.heap.size with h'|h'
  ·exact h'
  ·simp[Array.getElem?_eq_none h']at hbk
 have hb2:w2.heap[b]?=some (.cells #[.pointer (some ⟨b,0,none⟩),v] 141 (0,0)):=by
  rw[hgrow.block b hlt (fun e=>hne e.symm)]
  exact hbk
 have d0:w2.cell? ⟨b,0,none⟩=some (.pointer (some ⟨b,0,none⟩)):=by rw[Lib.cell_of_heap hb2]; rfl
 have d1:w2.cell? ⟨b,1,none⟩=some v:=by rw[Lib.cell_of_heap hb2]; rfl
 have f1:w2.frozen? ⟨b,1,none⟩=false:=Lib.frozen_of_heap hb2 1
 obtain⟨ao,n',cap,rfl⟩:∃ao n' cap,v'=.slice ao n' cap:=by
  rcases hown'.2 with⟨hv,_⟩|⟨g,cap,cur,hv,_⟩
  ·exact⟨_,_,_,hv⟩
  ·exact⟨_,_,_,hv⟩
 go_wp2
 go_ret2
 refine⟨rfl,?_,?_⟩
 ·exact Lib.BuilderAt.put (T:=141) (e:=5) hB hb2 (bs':=bs++Lib.strCells s) (by simpa [Lib.strCells_length] using hown') (by decide)
 ·exact(hb1.grown hgrow (by have:=hb1.size; omega) (fun k hk=>(hown.lt k hk).1)).setCell (p:=⟨b,1,none⟩) hB _
end Wx
