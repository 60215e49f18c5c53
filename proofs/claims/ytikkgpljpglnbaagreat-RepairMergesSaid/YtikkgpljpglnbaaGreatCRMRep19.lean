import Derived.Test.YtikkgpljpglnbaaGreatCRMRep18
namespace Wx
set_option maxRecDepth 100000
open Go Go.RowKit Go.Proofs
set_option linter.unusedVariables false
attribute [local irreducible] OpOk
variable {K L:List Pt}
theorem Fs:∀w v,bz 2 true (K.length+L.length) (λk=>cq ((K++L).getD k (0,0))) w v->eC (K++L) w v:=by
 show ∀w v,_->bz 2 true (K++L).length _ w v
 rw[List.length_append]
 exactλ_ _ h=>h
set_option maxHeartbeats 2000000 in
theorem Ej {k l:Int} (h:K.length<=1000/\L.length<=1000):K2 Tryz.prog 8 (eR K k) (eR L l) (fl (eR (sA K L k l) (BJ K L k l)) (pI (dM K L k l))):=by
 intro M w0 v0 v1 hM hv0 jw
 refine rZ (N:=40) Tryz.func8 rfl rfl rfl hM hv0 jw λa hI=>?_
 refine bk hI 4 [⟨4,4,some 2,none,.ptr,30,2,true,pv _,[]⟩] [] [Uc 0 2 _,Uc 1 3 _,Uc 3 5 _] .z (.kk .z) ⟨vh 2 true (hf:=bG _ _),vh 2 true (hf:=bG _ _),tn [.n,.i],mv,trivial⟩ (.k .z) (.oF (.k .z)) λa w hI=>?_
 refine au ?_
 refine bk hI 3 [] [] [Uc 0 9 _,Uc 1 10 _,Uc 2 6 _] (.k .z) (.cE .z) ⟨ld,uN AL (hφ:=by omega),mv,trivial⟩ (.k .z) (.dx (.dk .z)) λa w hI=>?_
 refine bk hI 2 [] [] [Uc 0 11 _,Uc 1 12 _] (.k .z) (.aj .z) ⟨mv,bn,trivial⟩ (.k .z) (.aj (.dk .z)) λa w hI=>?_
 refine gA hI (λt1=>?_) (λt1=>?_)
 ·
  have hE:=Im (L:=L) (l:=l) t1
  refine bk hI 4 [] [] [Uc 0 13 _,Uc 1 14 _,Uc 3 5 _] (.u none [(2,pv _)] .z) (.kk (.t 3 (.kk .z))) ⟨bd [.o .n,.o .i] [],mv,mW,mv,trivial⟩ (.s .o .z) (.dm (.dL .z)) λa w hI=>?_
  refine aH ?_
  refine aC ?_
  exact lY hI rfl (xx (hq:=qW (by rw[hE]; exact t1))) (fR (hq:=bL hE.symm))
 ·
  have pA:ct K k=0:=Decidable.not_not.1 t1
  refine ax ?_
  refine af ?_
  refine au ?_
  refine bk hI 3 [] [] [Uc 0 15 _,Uc 1 16 _,Uc 2 7 _] (.k .z) (.aj (.k .z)) ⟨ld,uN AL (hφ:=by omega),mv,trivial⟩ (.k .z) (.dx (.dL .z)) λa w hI=>?_
  refine bk hI 2 [] [] [Uc 0 17 _,Uc 1 18 _] (.k .z) (.aj .z) ⟨mv,bn,trivial⟩ (.k .z) (.aj (.dk .z)) λa w hI=>?_
  refine gA hI (λt2=>?_) (λt2=>?_)
  ·
   have hE:=Io pA t2
   refine bk hI 4 [] [] [Uc 0 19 _,Uc 1 20 _,Uc 3 5 _] (.u none [(2,pv _)] .z) (.kk (.t 3 (.kk .z))) ⟨bd [.o .n,.o .i] [],mv,mW,mv,trivial⟩ (.s .o .z) (.dm (.dL .z)) λa w hI=>?_
   refine aH ?_
   refine aC ?_
   exact lY hI rfl (xx (hq:=qW (by rw[hE]; exact t2))) (fR (hq:=bL hE.symm))
  ·
   have hl0:ct L l=0:=Decidable.not_not.1 t2
   have Bq:=Ae pA hl0
   have hK:=cV (bZ pA)
   have SG:=cV (bZ hl0)
   have hch:∀j,j<L.length->ae L j=(K++L).getD (K.length+j) (0,0):=λj hj=>by
    have e:=CL (K:=K) (L:=L) (q:=K.length+j) (by omega)
    rw[Nat.add_sub_cancel_left]at e
    exact e.symm
   refine ax ?_
   refine af ?_
   refine AZ hI [0,0,2,7,0,16,63,127,255] [⟨24,24,some 3,some 6,.grow (K.length) 2,38,3,true,pv lH,[]⟩,⟨27,27,some 6,none,.grow (K.length+L.length) 2,38,3,true,pv lH,[]⟩] [] [Uc 0 21 _,Uc 1 22 _,Uc 2 23 _,Uc 3 24 _,Uc 4 25 _,Uc 5 26 _,Uc 6 27 _,Uc 7 28 _,Uc 8 8 _] (.k .z) (.aj (.k .z)) ⟨QV (sz:=2) 38,fP 0 1 false,ld,QT (F:=cq) (e:=λk=>ae K k) (K++L) (0,0) bC (he:=λk hk=>(tX hk).symm) (hn:=by omega) (hmax:=by omega),fP 0 1 false,ld,Sh (F:=cq) (e:=λk=>ae L k) (K++L) (0,0) bC (he:=hch) (hmax:=by omega),uN (Ko (L:=K++L) (H:=hL (K++L))) (c1:=Fs) (hφ:=LK Bq),mv,trivial⟩ (.k (.d (.d .z))) (.dx (.d8 (.dk .z))) λa w hI=>?_
   refine au ?_
   refine bk hI 3 [] [] [Uc 0 29 _,Uc 1 30 _,Uc 2 31 _] (.k .z) (.aj .z) ⟨mv,ln,bn,trivial⟩ (.k .z) (.aj (.lO .z)) λa w hI=>?_
   refine gA hI (λt3=>?_) (λt3=>?_)
   ·
    have hE:=Ip pA hl0 (by omega)
    refine bk hI 3 [] [] [Uc 0 32 _,Uc 2 5 _] (.u none [(1,pv _)] .z) (.kk (.t 2 (.kk .z))) ⟨bd [.o .n,.o .i] [],mW,mv,trivial⟩ (.s .o .z) (.gX (.lO .z)) λa w hI=>?_
    refine aH ?_
    refine aC ?_
    exact lY hI rfl (xx (hq:=qW (by rw[hE]; decide))) (fR (hq:=bL hE.symm))
   ·
    have hE:=Iq pA hl0 (by omega)
    refine ax ?_
    refine af ?_
    refine bk hI 9 [] [] [Uc 0 33 _,Uc 1 34 _,Uc 2 35 _,Uc 3 36 _,Uc 4 37 _,Uc 5 38 _,Uc 6 39 _,Uc 8 5 _] (.u none [(7,pv _)] .z) (.kk (.t 8 (.kk .z))) ⟨mv,fP 1 1 false,ld,fP 1 1 false,ld,Qb,bd [.o .n,.o .i] [(0,_),(1,_)],mW,mv,trivial⟩ (.s .o .z) (.d8 (.cH (.k .z))) λa w hI=>?_
    refine aH ?_
    exact lY hI rfl (xx (hq:=Ao hE)) (fR (hq:=bL hE.symm))
theorem DI (K L:List Pt) (k l:Int):(sA K L k l).length<=10:=by
 unfold sA
 split
 ·rename_i h
  unfold dM at h
  split at h
  ·contradiction
  ·split at h
   ·contradiction
   ·split at h
    ·cases h
    ·omega
 ·exact Nat.zero_le _
end Wx
