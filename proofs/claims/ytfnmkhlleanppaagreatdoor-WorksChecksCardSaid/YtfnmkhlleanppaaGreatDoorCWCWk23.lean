import Derived.Test.YtfnmkhlleanppaaGreatDoorCWCWkK
namespace Wx
set_option maxRecDepth 100000
set_option maxHeartbeats 1000000
open Go Go.RowKit Go.Proofs
set_option linter.unusedVariables false
attribute [local irreducible] OpOk
section
variable {P:Program} {ops:Array Oper} {ms:List Nat} {c:bQ} {V:List Vr} {A:List Al} {G:List aN} {i d:Nat} {x y z:Operand} {ty t u:TypeId} {pos:String} {aft:Array Edge} {m:Int}
theorem Ih (h1:Has ms G i x (ei m):=by exact hs) (h2:Has ms G i y (ei 16):=by exact hs) (hm:0<=m/\m<=4294967295:=by omega) (hp:Post G i (ei (m%16)):=by exact pt rfl):OpOk P ops ms c V A G i ⟨some d,.binOp .rem t x y u,ty,pos,aft,none⟩:=
 cD h1 h2 (λw=>by
  show Result.ok (Value.int .u32 (m.tmod 16)) w=_
  rw[Int.tmod_eq_emod_of_nonneg hm.1]) hp
theorem Ku (h1:Has ms G i x (ei m):=by exact hs) (h2:Has ms G i y (ei 16):=by exact hs) (hm:0<=m/\m<=4294967295:=by omega) (hp:Post G i (ei (m/16)):=by exact pt rfl):OpOk P ops ms c V A G i ⟨some d,.binOp .quo t x y u,ty,pos,aft,none⟩:=
 cD h1 h2 (λw=>by
  show Result.ok (Value.int .u32 (IntKind.u32.wrap (m.tdiv 16))) w=_
  rw[Int.tdiv_eq_ediv_of_nonneg hm.1,show IntKind.u32.wrap (m/16)=(m/16)%4294967296 from rfl,Int.emod_eq_of_lt (by omega) (by omega)]) hp
theorem KB {T:TypeId} {s:ByteArray} {m n:Int} (j k:Nat) (h:Has ms G i x (pT s):=by exact hs) (hy:Has ms G i y (ei m):=by exact hs) (hz:Has ms G i z (ei n):=by exact hs) (ej:m=(j:Int):=by omega) (ek:n=(k:Int):=by omega) (hj:j<=k:=by omega) (hk:k<=s.size:=by omega) (ht:isStr P T=true:=by kernel_rfl) (hp:Post G i (pT (s.extract j k)):=by exact pt rfl):OpOk P ops ms c V A G i ⟨some d,.slice T x (some y) (some z) none,ty,pos,aft,none⟩:=by
 subst ej ek
 exact bD rfl rfl rfl (.inl rfl) hp λL β a w hI hd=>by
  have e1:a.eval x=.string s:=(h.spec hI hd).out
  have e2:a.eval y=.int .u32 (j:Int):=(hy.spec hI hd).out
  have e3:a.eval z=.int .u32 (k:Int):=(hz.spec hI hd).out
  refine⟨.string (s.extract j k),w,?_,Below.refl _ _,λ_ _=>rfl⟩
  show(do pure (Next.value (<-Instr.sliceAt T (a.eval x) (some (a.eval y)) (some (a.eval z)) none))).run P w=_
  rw[e1,e2,e3]
  exact ve w ht (run_slice_string w T s .u32 .u32 (j:Int) (k:Int) (dX ht) (by omega) (by omega) (by omega))
end
theorem Gt:∀k:Nat,k<16->bz ⟨#[48,49,50,51,52,53,54,55,56,57,97,98,99,100,101,102]⟩ k=pH k:=by decide
variable {m n:Int}
theorem KW (h:m=n):∀w v,ei m w v->ei n w v:=by subst h; exactλ_ _ h=>h
theorem Iq (h:0<=m/\m<16):kY (m+1)=((m.toNat+1:Nat):Int):=by
 unfold kY
 rw[IntKind.wrap_u32]
 omega
theorem JE (n:Int) (j:Nat):n/16^j/16=n/16^(j+1):=by
 rw[Int.ediv_ediv_of_nonneg (Int.le_of_lt (Int.pow_pos (by decide))),Int.pow_succ]
theorem En (hn:0<=n/\n<4294967296) (j:Nat):0<=n/16^j/\n/16^j<=4294967295:=by
 have hp:(0:Int)<16^j:=Int.pow_pos (by decide)
 have h1:=Int.ediv_nonneg hn.1 (Int.le_of_lt hp)
 have h2:=Int.ediv_le_self ((16:Int)^j) hn.1
 omega
theorem Ij (hm:0<=m/\m<4294967296):K1 Tryz.prog 45 (ei m) (pT (gR m 8)):=by
 intro M w0 v0 hM hv0
 refine fR (N:=20) Tryz.func45 rfl rfl rfl hM hv0 λa hI=>?_
 refine au hI 1 [Uc 0 2 _] (.k .z) ⟨mv,trivial⟩ (.kk .z) λa w hI=>?_
 refine au hI 1 [Uc 0 3 _] (.kk .z) ⟨mv,trivial⟩ (.aU .z) λa w hI=>?_
 refine ah ?_
 refine au hI 1 [Uc 0 4 _] (.aU .z) ⟨mv,trivial⟩ (.af .z) λa w hI=>?_
 refine aD ?_
 refine qz [] [Uz 2 _] (λ(i:Nat)=>[]) (λ(i:Nat)=>[Uz 4 (pI ((i:Nat):Int)),Uz 3 (pT (gR m (i))),Uz 0 (ei (m/16^(i)))]) (λ(i:Nat)=>i<=8) (λ(i:Nat)=>8-i) (0) (by omega) hI trivial ⟨gi,gc,gC (lB (by rfl)),gC (KW (by rw[show(16:Int)^0=1 from rfl,Int.ediv_one])),trivial⟩ ?_
 intro i a w hp hI
 have hu:=En hm i
 have hd:0<=m/16^i%16/\m/16^i%16<16:=by omega
 have GU:=xY (s:=⟨#[48,49,50,51,52,53,54,55,56,57,97,98,99,100,101,102]⟩) rfl Gt (n:=m) (k:=i) (d:=(m/16^i%16).toNat) (by omega)
 have hsz:((⟨#[48,49,50,51,52,53,54,55,56,57,97,98,99,100,101,102]⟩:ByteArray).extract (m/16^i%16).toNat ((m/16^i%16).toNat+1)).size+(gR m i).size<=9223372036854775807:=by
  rw[ByteArray.size_extract,cY]; omega
 refine ah ?_
 refine au hI 2 [Uc 0 5 _,Uc 1 6 _] (.af .z) ⟨mv,bn,trivial⟩ (.af (.dk .z)) λa w hI=>?_
 refine jv hI (λt1=>?_) (λt1=>?_)
 ·
  refine ak ?_
  refine ae ?_
  refine ah ?_
  refine aD ?_
  refine au hI 9 [Uc 0 9 _,Uc 1 10 _,Uc 2 11 _,Uc 3 12 _,Uc 4 13 _,Uc 5 14 _,Uc 6 15 _,Uc 7 16 _,Uc 8 3 _] (.kk (.t 8 (.kk .z))) ⟨mv,Ih,mv,Ih,xk,KB (m/16^i%16).toNat ((m/16^i%16).toNat+1) (ek:=Iq hd) (hk:=by show _<=(16:Nat); omega),mv,Iz (hz:=hsz),mv,trivial⟩ (.bS (.d8 (.dk .z))) λa w hI=>?_
  refine iP hI 3 [Uc 0 17 _,Uc 1 18 _,Uc 2 0 _] (.kk (.t 2 (.k .z))) ⟨mv,Ku,mv,trivial⟩ (.bS (.eC .z)) λa w hI=>?_
  refine bk ?_
  refine ae ?_
  refine iP hI 3 [Uc 0 7 _,Uc 1 8 _,Uc 2 4 _] (.k (.t 2 (.kk .z))) ⟨mv,bn,mv,trivial⟩ (.mI (.eC .z)) λa w hI=>?_
  refine ae ?_
  exact nQ (i+1) (by omega) hI trivial ⟨gc,gc,gC (lB GU),gC (KW (JE m i)),trivial⟩ (by omega)
 ·
  refine cj ?_
  refine aC ?_
  refine aC ?_
  refine bf ?_
  refine ae ?_
  obtain rfl:i=8:=by omega
  refine au hI 2 [Uc 0 19 _,Uc 1 2 _] (.t 1 (.af .z)) ⟨mv,mv,trivial⟩ (.bp (.eC .z)) λa w hI=>?_
  refine av ?_
  exact bW hI rfl cm
theorem Cc {t:ByteArray} (hz:t.size<=1000000):K1 Tryz.prog 42 (pT t) (dF (aI 1 false (aL t) λq=>pT (cZ t q)) (pB (okF t))):=by
 intro M w0 v0 hM hv0
 refine fR (N:=31) Tryz.func42 rfl rfl rfl hM hv0 λa hI=>?_
 refine au hI 2 [Uc 0 2 _,Uc 1 3 _] (.k .z) ⟨mv,mv,trivial⟩ (.aU .z) λa w hI=>?_
 refine bO hI 1 [⟨4,4,some 0,none,.grow (0) 1,9,3,true,pv aT,[]⟩] [] [Uc 0 4 _] .z (.aU .z) ⟨HN (f:=λq=>pT (cZ t q)),trivial⟩ (.k .z) (.af .z) λa w hI=>?_
 refine bO hI 1 [] [] [Uc 0 5 _] (.k .z) (.af .z) ⟨mv,trivial⟩ (.k .z) (.af (.k .z)) λa w hI=>?_
 refine ah ?_
 refine bO hI 1 [] [] [Uc 0 6 _] (.k .z) (.af (.k .z)) ⟨mv,trivial⟩ (.k .z) (.af (.kk .z)) λa w hI=>?_
 refine aD ?_
 refine qz [] [Uz 0 _,Uz 2 _,Uz 3 _] (λ(k:Nat×Nat)=>[Gz 4 4 k.2 1 9]) (λ(k:Nat×Nat)=>[Uz 4 (aI 1 false k.2 (λq=>pT (cZ t q))),Uz 5 (pI ((dK t k.2:Nat):Int)),Uz 6 (pI (k.1:Int))]) (λ(k:Nat×Nat)=>qD t k.1 k.2) (λ(k:Nat×Nat)=>t.size-k.1) ((0,0)) (EP t) hI ⟨vG,trivial⟩ ⟨gi,gi,gi,gc,gc,gc,trivial⟩ ?_
 intro k a w hk hI
 have JJ:=hk.DY
 refine ah ?_
 refine bO hI 4 [] [] [Uc 0 7 _,Uc 1 8 _,Uc 2 9 _,Uc 3 10 _] (.k .z) (.af (.kk .z)) ⟨mv,mv,gF,bn,trivial⟩ (.k .z) (.af (.bK (.dk .z))) λa w hI=>?_
 refine jv hI (λt1=>?_) (λt1=>?_)
 ·
  refine ak ?_
  refine ae ?_
  refine ah ?_
  refine aD ?_
  refine bO hI 4 [] [] [Uc 0 13 _,Uc 1 14 _,Uc 2 15 _,Uc 3 16 _] (.k .z) (.af (.aU .z)) ⟨mv,mv,lJ k.1,bn,trivial⟩ (.k .z) (.af (.bK (.eC .z))) λa w hI=>?_
  refine jv hI (λt2=>?_) (λt2=>?_)
  ·
   have hcut:=yM hk (by omega) t2
   refine ju hI 8 7 [⟨17,17,some 0,some 6,.grow (k.2) 1,9,3,true,pv aT,[]⟩,⟨23,23,some 6,none,.grow (k.2+1) 1,9,3,true,pv aT,[]⟩] [] [Uc 0 17 _,Uc 1 18 _,Uc 2 19 _,Uc 3 20 _,Uc 4 21 _,Uc 5 22 _,Uc 6 23 _] (.u (some 0) [] .z) (.af (.aU .z)) ⟨IY,mv,mv,mv,Im (dK t k.2) k.1 (hj:=hk.Gh),vq 9,KP (f:=λq=>pT (cZ t q)) (λ_=>aE _) (aE _) (lB hcut.2.2.symm),trivial⟩ (.d (.d (.k .z))) (.bj (.lG (.bp (.dk .z)))) (⟨_,bF [⟨4,4,some 0,none,.grow (k.2+1) 1,9,3,true,pv aT,[]⟩] [] [Uc 0 4 _] (.u (some 0) [] .z) (.af (.k .z)) (IB) (.d (.k .z)) (.af (.dk .z)),rfl⟩) λa w hI=>?_
   refine sG hI 3 [] [] [Uc 0 24 _,Uc 1 25 _,Uc 2 5 _] (.k .z) (.af (.k .z)) ⟨mv,bn,mv,trivial⟩ (.k .z) (.af (.gS .z)) λa w hI=>?_
   refine bk ?_
   refine ae ?_
   refine sG hI 3 [] [] [Uc 0 11 _,Uc 1 12 _,Uc 2 6 _] (.k .z) (.aU (.t 2 (.kk .z))) ⟨mv,bn,mv,trivial⟩ (.k .z) (.bj (.bK (.k .z))) λa w hI=>?_
   refine ae ?_
   exact nQ ((k.1+1,k.2+1)) hcut.1 hI ⟨vG,trivial⟩ ⟨gc,gc,gc,gc,gC (bh (by rw[hcut.2.1])),gc,trivial⟩ (by show t.size-(k.1+1)<t.size-k.1; omega)
  ·
   have hgo:=BD hk (by omega) t2
   refine ak ?_
   refine bk ?_
   refine ae ?_
   refine sG hI 3 [] [] [Uc 0 11 _,Uc 1 12 _,Uc 2 6 _] (.k .z) (.af (.k (.t 2 (.k .z)))) ⟨mv,bn,mv,trivial⟩ (.k .z) (.af (.gE (.dk .z))) λa w hI=>?_
   refine ae ?_
   exact nQ ((k.1+1,k.2)) hgo hI ⟨vG,trivial⟩ ⟨gc,gc,gc,gc,gc,gc,trivial⟩ (by show t.size-(k.1+1)<t.size-k.1; omega)
 ·
  have hend:=yN hk (by have:=hk.le; omega)
  refine cj ?_
  refine aC ?_
  refine aC ?_
  refine bf ?_
  refine ae ?_
  refine bO hI 7 [⟨26,26,some 0,some 5,.grow (k.2) 1,9,3,true,pv aT,[]⟩,⟨2,2,some 5,none,.grow (k.2) 1,9,3,true,pv aT,[]⟩] [] [Uc 0 26 _,Uc 1 27 _,Uc 2 28 _,Uc 3 29 _,Uc 4 30 _,Uc 5 2 _,Uc 6 3 _] (.u (some 0) [] .z) (.k (.t 5 (.t 6 (.af .z)))) ⟨IY,mv,mv,gF,bn,IB,mv,trivial⟩ (.d (.d (.k .z))) (.d8 (.bp (.kk .z))) λa w hI=>?_
  refine av ?_
  exact fe hI rfl (cm (hq:=B9 hend.symm)) (cm (hq:=cQ (by rw[<-hend]; unfold okF; rw[Bool.eq_iff_iff,decide_eq_true_eq,decide_eq_true_eq]; omega)))
variable {L:List ByteArray}
theorem CR:(((((decide ((L.length:Int)≠3)||decide (L.getD 0 ⟨#[]⟩≠si))||!cC (L.getD 1 ⟨#[]⟩))||decide (((L.getD 2 ⟨#[]⟩).size:Int)≠1))||decide (bz (L.getD 2 ⟨#[]⟩) 0<48))||decide (bz (L.getD 2 ⟨#[]⟩) 0>56))=!Ee L:=by
 unfold Ee
 rw[Bool.eq_iff_iff]
 simp only[Bool.or_eq_true,Bool.not_eq_true',decide_eq_true_eq,decide_eq_false_iff_not]
 constructor
 ·rintro h ⟨h1,h2,h3,h4,h5,h6⟩
  rcases h with((((h|h)|h)|h)|h)|h
  ·omega
  ·exact h h2
  ·rw[h3]at h; cases h
  ·omega
  ·omega
  ·omega
 ·intro h
  refine Decidable.byContradiction λg=>h ?_
  simp only[not_or,Decidable.not_not,Bool.not_eq_false]at g
  obtain⟨⟨⟨⟨⟨g1,g2⟩,g3⟩,g4⟩,g5⟩,g6⟩:=g
  exact⟨by omega,g2,g3,by omega,by omega,by omega⟩
theorem CQ (h:(((((decide ((L.length:Int)≠3)||decide (L.getD 0 ⟨#[]⟩≠si))||!cC (L.getD 1 ⟨#[]⟩))||decide (((L.getD 2 ⟨#[]⟩).size:Int)≠1))||decide (bz (L.getD 2 ⟨#[]⟩) 0<48))||decide (bz (L.getD 2 ⟨#[]⟩) 0>56))=true):Ee L=false:=by
 rw[CR]at h; simpa using h
theorem pE (h:(((((decide ((L.length:Int)≠3)||decide (L.getD 0 ⟨#[]⟩≠si))||!cC (L.getD 1 ⟨#[]⟩))||decide (((L.getD 2 ⟨#[]⟩).size:Int)≠1))||decide (bz (L.getD 2 ⟨#[]⟩) 0<48))||decide (bz (L.getD 2 ⟨#[]⟩) 0>56))=false):Ee L=true:=by
 rw[CR]at h; simpa using h
section
variable {P:Program} {ops:Array Oper} {ms:List Nat} {c:bQ} {V:List Vr} {A:List Al} {G:List aN} {i d:Nat} {x y z:Operand} {ty t u:TypeId} {pos:String} {aft:Array Edge} {m n:Int}
theorem Kw (h1:Has ms G i x (sM m):=by exact hs) (h2:Has ms G i y (sM n):=by exact hs) (hm:0<=m-n/\m-n<=255:=by omega) (hp:Post G i (sM (m-n)):=by exact pt rfl):OpOk P ops ms c V A G i ⟨some d,.binOp .sub t x y u,ty,pos,aft,none⟩:=
 cD h1 h2 (λw=>by
  show Result.ok (Value.int .u8 (IntKind.u8.wrap (m-n))) w=_
  rw[show IntKind.u8.wrap (m-n)=(m-n)%256 from rfl,Int.emod_eq_of_lt (by omega) (by omega)]) hp
end
variable {s:ByteArray}
set_option maxHeartbeats 4000000 in
theorem vZ (hz:s.size<=1000000):J1 Tryz.prog 36 (pT s) (kj (pT (vI s)) (pI (Ap s)) (pB (xV s))):=by
 intro M w0 v0 hM hG hv0
 have hG:=dP hG
 have hsz:∀k,k<(ay s).length->((ay s).getD k ⟨#[]⟩).size<=1000000:=λk hk=>Nat.le_trans (gX (iH hk)) hz
 refine fR (N:=54) Tryz.func36 rfl rfl rfl hM hv0 λa hI=>?_
 refine au hI 3 [Uc 0 2 _,Uc 1 3 _,Uc 2 4 _] (.k .z) ⟨mv,mv,mv,trivial⟩ (.af .z) λa w hI=>?_
 refine au hI 3 [Uc 0 6 _,Uc 1 7 _,Uc 2 5 _] (.af .z) ⟨mv,wU hG iT (hφ:=hz),mv,trivial⟩ (.qV (.eC .z)) λa w hI=>?_
 refine ah ?_
 refine au hI 37 [Uc 0 8 _,Uc 1 9 _,Uc 2 10 _,Uc 3 11 _,Uc 4 12 _,Uc 5 13 _,Uc 6 14 _,Uc 7 15 _,Uc 8 16 _,Uc 9 17 _,Uc 10 18 _,Uc 11 19 _,Uc 12 20 _,Uc 13 21 _,Uc 14 22 _,Uc 15 23 _,Uc 16 24 _,Uc 17 25 _,Uc 18 26 _,Uc 19 27 _,Uc 20 28 _,Uc 21 29 _,Uc 22 30 _,Uc 23 31 _,Uc 24 32 _,Uc 25 33 _,Uc 26 34 _,Uc 27 35 _,Uc 28 36 _,Uc 29 37 _,Uc 30 38 _,Uc 31 39 _,Uc 32 40 _,Uc 33 41 _,Uc 34 42 _,Uc 35 43 _,Uc 36 44 _] (.af .z) ⟨mv,ln,bn,mv,gd λh=>cy h,gd λh=>az 0 hg (.const _) rfl (pg h rfl) (by have:=of_decide_eq_false h; omega) (by kernel_rfl) (by kernel_rfl),gd λh=>ax hg (pg h rfl) (by kernel_rfl) (aE _),gd λh=>D5 h,pk,mv,gd λh=>cy h,gd λh=>az 1 hg (.const _) rfl (pg h rfl) (by simp only[Bool.or_eq_false_iff,decide_eq_false_iff_not,Decidable.not_not]at h; omega) (by kernel_rfl) (by kernel_rfl),gd λh=>ax hg (pg h rfl) (by kernel_rfl) (aE _),gd λh=>AW h rI (hφ:=hsz 1 (by simp only[Bool.or_eq_false_iff,decide_eq_false_iff_not,Decidable.not_not]at h; omega)),gd λh=>CN h,pk,mv,gd λh=>cy h,gd λh=>az 2 hg (.const _) rfl (pg h rfl) (by simp only[Bool.or_eq_false_iff,decide_eq_false_iff_not,Decidable.not_not]at h; omega) (by kernel_rfl) (by kernel_rfl),gd λh=>ax hg (pg h rfl) (by kernel_rfl) (aE _),gd λh=>gF (h:=hg) (hp:=pg h rfl),gd λh=>fS h,pk,mv,gd λh=>cy h,gd λh=>az 2 hg (.const _) rfl (pg h rfl) (by simp only[Bool.or_eq_false_iff,decide_eq_false_iff_not,Decidable.not_not]at h; omega) (by kernel_rfl) (by kernel_rfl),gd λh=>ax hg (pg h rfl) (by kernel_rfl) (aE _),gd λh=>lJ 0 (h:=hg) (hy:=.const _) (hk:=(by simp only[Bool.or_eq_false_iff,decide_eq_false_iff_not,Decidable.not_not]at h; omega)) (hp:=pg h rfl),gd λh=>fS h,pk,mv,gd λh=>cy h,gd λh=>az 2 hg (.const _) rfl (pg h rfl) (by simp only[Bool.or_eq_false_iff,decide_eq_false_iff_not,Decidable.not_not]at h; omega) (by kernel_rfl) (by kernel_rfl),gd λh=>ax hg (pg h rfl) (by kernel_rfl) (aE _),gd λh=>lJ 0 (h:=hg) (hy:=.const _) (hk:=(by simp only[Bool.or_eq_false_iff,decide_eq_false_iff_not,Decidable.not_not]at h; omega)) (hp:=pg h rfl),gd λh=>fS h,pk,trivial⟩ (.af (.d8 (.d8 (.d8 (.d8 (.bp (.k .z))))))) λa w hI=>?_
 refine nX hI (λt1=>?_) (λt1=>?_)
 ·
  have hd:xV s=false:=CQ t1
  refine au hI 3 [Uc 0 2 _,Uc 1 3 _,Uc 2 4 _] (.t 0 (.t 1 (.t 2 (.kk .z)))) ⟨mv,mv,mv,trivial⟩ (.cf (.qV .z)) λa w hI=>?_
  refine av ?_
  refine aj ?_
  exact DZ hI rfl (cm (hq:=lB (by unfold vI; rw[hd]; rfl))) (cm (hq:=bh (by unfold Ap; rw[hd]; rfl))) (cm (hq:=cQ hd.symm))
 ·
  have hd:xV s=true:=pE t1
  obtain⟨h1,h2,h3,h4,h5,h6⟩:=of_decide_eq_true hd
  refine ak ?_
  refine ae ?_
  refine Iu hI [0,1,3,0,8,24,56,120,248,7,1023,2047] [Uc 0 45 _,Uc 1 46 _,Uc 2 47 _,Uc 3 48 _,Uc 4 49 _,Uc 5 50 _,Uc 6 51 _,Uc 7 52 _,Uc 8 53 _,Uc 9 2 _,Uc 10 3 _,Uc 11 4 _] (.t 9 (.t 10 (.t 11 (.kk .z)))) ⟨mv,az 1 hs (.const _) rfl (pt rfl) (by omega) (by kernel_rfl) (by kernel_rfl),ax hs (pt rfl) (by kernel_rfl) (aE _),mv,az 2 hs (.const _) rfl (pt rfl) (by omega) (by kernel_rfl) (by kernel_rfl),ax hs (pt rfl) (by kernel_rfl) (aE _),lJ 0,Kw,DU (hm:=by omega),mv,mv,mv,trivial⟩ (.d8 (.bp (.AO (.k .z)))) λa w hI=>?_
  refine av ?_
  exact DZ hI rfl (cm (hq:=lB (by unfold vI; rw[hd]; rfl))) (cm (hq:=bh (by unfold Ap; rw[hd]; rfl))) (cm (hq:=cQ hd.symm))
theorem Da:(((!iz 32 s||!bJ (eU 32 s))||decide (((fA 32 s).size:Int)>200))||!bt (fA 32 s))=!C9 s:=by
 unfold C9
 rw[Bool.eq_iff_iff]
 simp only[Bool.or_eq_true,Bool.not_eq_true',decide_eq_true_eq,decide_eq_false_iff_not]
 constructor
 ·rintro h ⟨h1,h2,h3,h4⟩
  rcases h with((h|h)|h)|h
  ·rw[h1]at h; cases h
  ·rw[h2]at h; cases h
  ·omega
  ·rw[h4]at h; cases h
 ·intro h
  refine Decidable.byContradiction λg=>h ?_
  simp only[not_or,Bool.not_eq_false]at g
  obtain⟨⟨⟨g1,g2⟩,g3⟩,g4⟩:=g
  exact⟨g1,g2,by omega,g4⟩
theorem HP (h:(((!iz 32 s||!bJ (eU 32 s))||decide (((fA 32 s).size:Int)>200))||!bt (fA 32 s))=true):qd s=0:=by
 rw[Da]at h
 unfold qd
 rw[if_neg (by simpa using h)]
theorem E4 (h:(((!iz 32 s||!bJ (eU 32 s))||decide (((fA 32 s).size:Int)>200))||!bt (fA 32 s))=false):qd s=dW (eU 32 s)/\bJ (eU 32 s)=true:=by
 rw[Da]at h
 have h:C9 s=true:=by simpa using h
 unfold qd
 rw[if_pos h]
 exact⟨rfl,(of_decide_eq_true h).2.1⟩
theorem AL (s:ByteArray):(eU 32 s).size<=s.size:=by unfold eU; rw[ByteArray.size_extract]; omega
theorem AM (s:ByteArray):(fA 32 s).size<=s.size:=by unfold fA; rw[ByteArray.size_extract]; omega
theorem tu (hz:s.size<=1000000):J1 Tryz.prog 40 (pT s) (pI (qd s)):=by
 intro M w0 v0 hM hG hv0
 have hG:=dP hG
 have hh:=AL s
 have ht:=AM s
 refine fR (N:=31) Tryz.func40 rfl rfl rfl hM hv0 λa hI=>?_
 refine au hI 1 [Uc 0 2 _] (.k .z) ⟨mv,trivial⟩ (.kk .z) λa w hI=>?_
 refine au hI 9 [Uc 0 7 _,Uc 1 8 _,Uc 2 6 _,Uc 3 9 _,Uc 4 10 _,Uc 5 11 _,Uc 6 3 _,Uc 7 4 _,Uc 8 5 _] (.kk .z) ⟨mv,wU hG Br (hφ:=hz),mv,ext,ext,ext,mv,mv,mv,trivial⟩ (.lG (.bp (.aU .z))) λa w hI=>?_
 refine ah ?_
 refine au hI 17 [Uc 0 12 _,Uc 1 13 _,Uc 2 14 _,Uc 3 15 _,Uc 4 16 _,Uc 5 17 _,Uc 6 18 _,Uc 7 19 _,Uc 8 20 _,Uc 9 21 _,Uc 10 22 _,Uc 11 23 _,Uc 12 24 _,Uc 13 25 _,Uc 14 26 _,Uc 15 27 _,Uc 16 28 _] (.af .z) ⟨mv,nt,mv,gd λh=>cy h,gd λh=>AW h uE (hφ:=by omega),gd λh=>CN h,pk,mv,gd λh=>cy h,gd λh=>gF (h:=hg) (hp:=pg h rfl),gd λh=>fS h,pk,mv,gd λh=>cy h,gd λh=>Ai hG (mL (s:=fA 32 s)) (h1:=hg) (hp:=pg h rfl) (hφ:=by omega),gd λh=>CN h,pk,trivial⟩ (.bK (.d8 (.d8 (.k .z)))) λa w hI=>?_
 refine nX hI (λt1=>?_) (λt1=>?_)
 ·
  refine au hI 1 [Uc 0 2 _] (.t 0 (.kk .z)) ⟨mv,trivial⟩ (.vD .z) λa w hI=>?_
  refine av ?_
  refine aj ?_
  exact bW hI rfl (cm (hq:=bh (HP t1).symm))
 ·
  have hn:=E4 t1
  refine ak ?_
  refine ae ?_
  refine au hI 3 [Uc 0 29 _,Uc 1 30 _,Uc 2 2 _] (.t 2 (.kk .z)) ⟨mv,nH (λh=>jX h) (hφ:=hn.2),mv,trivial⟩ (.bp (.dk .z)) λa w hI=>?_
  refine av ?_
  exact bW hI rfl (cm (hq:=bh hn.1.symm))
theorem FH:(decide ((s.size:Int)>=1)&&decide (s.extract (s.size-1) s.size=⟨#[10]⟩))=sy s:=by
 unfold sy
 rw[Bool.eq_iff_iff]
 simp only[Bool.and_eq_true,decide_eq_true_eq]
 have hs:0<s.size->(s.extract (s.size-1) s.size).size=1:=λh=>by rw[ByteArray.size_extract]; omega
 constructor
 ·rintro⟨h1,h2⟩
  refine⟨by omega,?_⟩
  have:=cJ (s:=s) (a:=s.size-1) (e:=s.size) (k:=0) (by rw[hs (by omega)]; omega)
  rw[h2]at this
  exact this.symm
 ·rintro⟨h1,h2⟩
  refine⟨by omega,dN (hs h1) λk hk=>?_⟩
  rw[cJ hk]
  rw[hs h1]at hk
  rw[show k=0 by omega,Nat.add_zero,h2]
  rfl
theorem vW (hz:s.size<=1000000):K2 Tryz.prog 67 (pT s) (pT ⟨#[10]⟩) (pB (sy s)):=by
 intro M w0 v0 v1 hM hv0 da
 have hone:(⟨#[10]⟩:ByteArray).size=1:=rfl
 refine fT (N:=21) Tryz.func67 rfl rfl rfl hM hv0 da λa hI=>?_
 refine au hI 1 [Uc 0 4 _] (.kk .z) ⟨mv,trivial⟩ (.aU .z) λa w hI=>?_
 refine au hI 17 [Uc 0 5 _,Uc 1 6 _,Uc 2 7 _,Uc 3 8 _,Uc 4 9 _,Uc 5 10 _,Uc 6 11 _,Uc 7 12 _,Uc 8 13 _,Uc 9 14 _,Uc 10 15 _,Uc 11 16 _,Uc 12 17 _,Uc 13 18 _,Uc 14 19 _,Uc 15 20 _,Uc 16 4 _] (.kk (.t 16 .z)) ⟨mv,gF,mv,gF,bn,mv,gd λh=>cy h,gd λh=>cy h,gd λh=>gF (h:=hg) (hp:=pg h rfl),gd λh=>cy h,gd λh=>gF (h:=hg) (hp:=pg h rfl),gd λh=>fS h,gd λh=>FJ (s.size-1) (h:=hg) (hy:=(hg).imp (bh (by have:=of_decide_eq_true h; omega))) (hp:=pg h rfl),gd λh=>cy h,gd λh=>D5 h,pk,mv,trivial⟩ (.d8 (.d8 (.cf .z))) λa w hI=>?_
 refine av ?_
 exact bW hI rfl (cm (hq:=cQ FH))
theorem yy (hz:s.size<=1000000):K2 Tryz.prog 35 (pT s) (pT ⟨#[10]⟩) (pB (sy s)):=by
 intro M w0 v0 v1 hM hv0 da
 refine fT (N:=8) Tryz.func35 rfl rfl rfl hM hv0 da λa hI=>?_
 refine au hI 1 [Uc 0 4 _] (.kk .z) ⟨mv,trivial⟩ (.aU .z) λa w hI=>?_
 refine au hI 4 [Uc 0 5 _,Uc 1 6 _,Uc 2 7 _,Uc 3 4 _] (.kk (.t 3 .z)) ⟨mv,mv,mz vW (hφ:=hz),mv,trivial⟩ (.bp (.eC .z)) λa w hI=>?_
 refine av ?_
 exact bW hI rfl cm
theorem Ic:(decide ((s.size:Int)>=4)&&decide (s.extract 0 4=lM))=Av s:=by
 unfold Av
 rw[Bool.eq_iff_iff]
 simp only[Bool.and_eq_true,decide_eq_true_eq]
 exact⟨λh=>⟨by omega,h.2⟩,λh=>⟨by omega,h.2⟩⟩
theorem yx (hz:s.size<=1000000):K2 Tryz.prog 108 (pT s) (pT lM) (pB (Av s)):=by
 intro M w0 v0 v1 hM hv0 da
 have GZ:lM.size=4:=rfl
 refine fT (N:=18) Tryz.func108 rfl rfl rfl hM hv0 da λa hI=>?_
 refine au hI 1 [Uc 0 4 _] (.kk .z) ⟨mv,trivial⟩ (.aU .z) λa w hI=>?_
 refine au hI 14 [Uc 0 5 _,Uc 1 6 _,Uc 2 7 _,Uc 3 8 _,Uc 4 9 _,Uc 5 10 _,Uc 6 11 _,Uc 7 12 _,Uc 8 13 _,Uc 9 14 _,Uc 10 15 _,Uc 11 16 _,Uc 12 17 _,Uc 13 4 _] (.kk (.t 13 .z)) ⟨mv,gF,mv,gF,bn,mv,gd λh=>cy h,gd λh=>cy h,gd λh=>gF (h:=hg) (hp:=pg h rfl),gd λh=>Cg 4 (h:=hg) (hy:=(hg).imp (bh (by rfl))) (hk:=by have:=of_decide_eq_true h; omega) (hp:=pg h rfl),gd λh=>cy h,gd λh=>D5 h,pk,mv,trivial⟩ (.d8 (.d8 (.k .z))) λa w hI=>?_
 refine av ?_
 exact bW hI rfl (cm (hq:=cQ Ic))
theorem vV (hz:s.size<=1000000):K2 Tryz.prog 69 (pT s) (pT lM) (dF (pT (wV s)) (pB (Av s))):=by
 intro M w0 v0 v1 hM hv0 da
 have GZ:lM.size=4:=rfl
 refine fT (N:=15) Tryz.func69 rfl rfl rfl hM hv0 da λa hI=>?_
 refine au hI 2 [Uc 0 4 _,Uc 1 5 _] (.kk .z) ⟨mv,mv,trivial⟩ (.af .z) λa w hI=>?_
 refine ah ?_
 refine au hI 4 [Uc 0 6 _,Uc 1 7 _,Uc 2 8 _,Uc 3 9 _] (.af .z) ⟨mv,mv,mz yx (hφ:=hz),nt,trivial⟩ (.af (.cf .z)) λa w hI=>?_
 refine nX hI (λt1=>?_) (λt1=>?_)
 ·
  have hp:Av s=false:=by simpa using t1
  refine au hI 3 [Uc 0 10 _,Uc 1 4 _,Uc 2 5 _] (.kk (.t 1 (.t 2 (.k .z)))) ⟨mv,mv,mv,trivial⟩ (.bK (.AO .z)) λa w hI=>?_
  refine av ?_
  refine aj ?_
  exact fe hI rfl (cm (hq:=lB (by unfold wV; rw[hp]; rfl))) (cm (hq:=cQ hp.symm))
 ·
  have hp:Av s=true:=by simpa using t1
  have J7:=(of_decide_eq_true hp).1
  refine ak ?_
  refine ae ?_
  refine au hI 6 [Uc 0 11 _,Uc 1 12 _,Uc 2 13 _,Uc 3 14 _,Uc 4 4 _,Uc 5 5 _] (.kk (.t 4 (.t 5 (.k .z)))) ⟨mv,mv,gF,FJ 4 (hk:=by omega),mv,mv,trivial⟩ (.d8 (.xA .z)) λa w hI=>?_
  refine av ?_
  exact fe hI rfl (cm (hq:=lB (by unfold wV; rw[hp]; rfl))) (cm (hq:=cQ hp.symm))
theorem yw (hz:s.size<=1000000):K2 Tryz.prog 37 (pT s) (pT lM) (dF (pT (wV s)) (pB (Av s))):=by
 intro M w0 v0 v1 hM hv0 da
 refine fT (N:=11) Tryz.func37 rfl rfl rfl hM hv0 da λa hI=>?_
 refine au hI 2 [Uc 0 4 _,Uc 1 5 _] (.kk .z) ⟨mv,mv,trivial⟩ (.af .z) λa w hI=>?_
 refine au hI 7 [Uc 0 6 _,Uc 1 7 _,Uc 2 8 _,Uc 3 9 _,Uc 4 10 _,Uc 5 4 _,Uc 6 5 _] (.kk (.t 5 (.t 6 .z))) ⟨mv,mv,mz vV (hφ:=hz),ext,ext,mv,mv,trivial⟩ (.d8 (.xA .z)) λa w hI=>?_
 refine av ?_
 exact fe hI rfl cm cm
theorem yT (h:(decide ((s.size:Int)<1)||decide ((s.size:Int)>24))=true):false=cC s:=by
 unfold cC
 cases hn:dx gG s
 ·rw[Bool.and_false]
 ·have:=gv hn
  simp only[Bool.or_eq_true,decide_eq_true_eq]at h
  rw[decide_eq_false (by omega)]
  rfl
variable {i:Nat}
theorem yU (hi:i<s.size) (h:gG (bz s i)=false):false=cC s:=by
 unfold cC
 rw[<-uj hi h,Bool.and_false]
theorem BJ (h1:(decide ((s.size:Int)<1)||decide ((s.size:Int)>24))=false) (h:∀k,k<s.size->gG (bz s k)=true):true=cC s:=by
 simp only[Bool.or_eq_false_iff,decide_eq_false_iff_not]at h1
 have hne:s≠⟨#[]⟩:=λe=>by rw[e]at h1; exact h1.1 (by decide)
 unfold cC
 rw[decide_eq_true (by omega),<-qH h,decide_eq_true hne]
 rfl
theorem FE (hz:s.size<=1000000):K1 Tryz.prog 43 (pT s) (pB (cC s)):=by
 intro M w0 v0 hM hv0
 refine fR (N:=47) Tryz.func43 rfl rfl rfl hM hv0 λa hI=>?_
 refine au hI 1 [Uc 0 2 _] (.k .z) ⟨mv,trivial⟩ (.kk .z) λa w hI=>?_
 refine ah ?_
 refine au hI 8 [Uc 0 4 _,Uc 1 5 _,Uc 2 6 _,Uc 3 7 _,Uc 4 8 _,Uc 5 9 _,Uc 6 10 _,Uc 7 11 _] (.kk .z) ⟨mv,gF,bn,mv,gd λh=>cy h,gd λh=>gF (h:=hg) (hp:=pg h rfl),gd λh=>fS h,pk,trivial⟩ (.bK (.bp (.dk .z))) λa w hI=>?_
 refine nX hI (λt1=>?_) (λt1=>?_)
 ·
  refine au hI 1 [Uc 0 2 _] (.k (.t 0 (.k .z))) ⟨mv,trivial⟩ (.gS .z) λa w hI=>?_
  refine av ?_
  refine aj ?_
  exact bW hI rfl (cm (hq:=cQ (yT t1)))
 ·
  refine ak ?_
  refine ae ?_
  refine ah ?_
  refine au hI 1 [Uc 0 3 _] (.aU .z) ⟨mv,trivial⟩ (.bS .z) λa w hI=>?_
  refine aD ?_
  refine qz [] [Uz 0 _] (λ(i:Nat)=>[]) (λ(i:Nat)=>[Uz 3 (pI (i:Int))]) (λ(i:Nat)=>i<=s.size/\∀k,k<i->gG (bz s k)=true) (λ(i:Nat)=>s.size-i) (0) ⟨Nat.zero_le _,λ_ h=>absurd h (Nat.not_lt_zero _)⟩ hI trivial ⟨gi,gc,trivial⟩ ?_
  intro i a w hp hI
  refine ah ?_
  refine au hI 4 [Uc 0 12 _,Uc 1 13 _,Uc 2 14 _,Uc 3 15 _] (.kk .z) ⟨mv,mv,gF,bn,trivial⟩ (.bK (.dk .z)) λa w hI=>?_
  refine jv hI (λt2=>?_) (λt2=>?_)
  ·
   refine ak ?_
   refine ae ?_
   refine ah ?_
   refine aD ?_
   refine au hI 29 [Uc 0 18 _,Uc 1 19 _,Uc 2 20 _,Uc 3 21 _,Uc 4 22 _,Uc 5 23 _,Uc 6 24 _,Uc 7 25 _,Uc 8 26 _,Uc 9 27 _,Uc 10 28 _,Uc 11 29 _,Uc 12 30 _,Uc 13 31 _,Uc 14 32 _,Uc 15 33 _,Uc 16 34 _,Uc 17 35 _,Uc 18 36 _,Uc 19 37 _,Uc 20 38 _,Uc 21 39 _,Uc 22 40 _,Uc 23 41 _,Uc 24 42 _,Uc 25 43 _,Uc 26 44 _,Uc 27 45 _,Uc 28 46 _] (.aU .z) ⟨mv,mv,lJ i,bn,mv,gd λh=>cy h,gd λh=>cy h,gd λh=>lJ i (h:=hg) (hy:=hg) (hp:=pg h rfl),gd λh=>fS h,pk,mv,gd λh=>cy h,gd λh=>cy h,gd λh=>lJ i (h:=hg) (hy:=hg) (hp:=pg h rfl),gd λh=>fS h,gd λh=>cy h,sK λh=>cy h,sK λh=>cy h,sK λh=>lJ i (h:=hg) (hy:=hg) (hp:=pg h rfl),sK λh=>fS h,gd λh=>GO h,pk,mv,gd λh=>cy h,gd λh=>cy h,gd λh=>lJ i (h:=hg) (hy:=hg) (hp:=pg h rfl),gd λh=>fS h,pk,nt,trivial⟩ (.bK (.d8 (.d8 (.d8 (.cf .z))))) λa w hI=>?_
   refine nX hI (λt3=>?_) (λt3=>?_)
   ·
    have hst:gG (bz s i)=false:=by
     have KE:(!gG (bz s i))=true:=t3
     simpa using KE
    refine au hI 1 [Uc 0 2 _] (.aU .z) ⟨mv,trivial⟩ (.bS .z) λa w hI=>?_
    refine av ?_
    refine aS ?_
    refine aj ?_
    refine aj ?_
    refine aS ?_
    refine aj ?_
    exact bW hI rfl (cm (hq:=cQ (yU (i:=i) (by omega) hst)))
   ·
    have hst:gG (bz s i)=true:=by
     have KE:(!gG (bz s i))=false:=t3
     simpa using KE
    refine ak ?_
    refine bk ?_
    refine ae ?_
    refine iP hI 3 [Uc 0 16 _,Uc 1 17 _,Uc 2 3 _] (.k (.t 2 (.k .z))) ⟨mv,bn,mv,trivial⟩ (.gE (.dk .z)) λa w hI=>?_
    refine ae ?_
    exact nQ (i+1) ⟨by omega,λk hk=>if e:k=i then by rw[e]; exact hst else hp.2 k (by omega)⟩ hI trivial ⟨gc,gc,trivial⟩ (by omega)
  ·
   refine cj ?_
   refine aC ?_
   refine aC ?_
   refine bf ?_
   refine ae ?_
   refine au hI 1 [Uc 0 2 _] (.aU .z) ⟨mv,trivial⟩ (.cf .z) λa w hI=>?_
   refine av ?_
   exact bW hI rfl (cm (hq:=cQ (BJ t1 λk hk=>hp.2 k (by omega))))
def Au (s:ByteArray):Int:=if bJ s=true then dW s else 0
theorem za (h:((decide ((s.size:Int)<1)||decide ((s.size:Int)>8))||(decide ((s.size:Int)>1)&&decide (bz s 0=48)))=true):bJ s=false:=by
 rw[jT]
 refine decide_eq_false λk=>?_
 simp only[Bool.or_eq_true,Bool.and_eq_true,decide_eq_true_eq]at h
 rcases h with(h|h)|h
 ·omega
 ·omega
 ·exact k.2.1 ⟨by omega,h.2⟩
theorem zc (h:((decide ((s.size:Int)<1)||decide ((s.size:Int)>8))||(decide ((s.size:Int)>1)&&decide (bz s 0=48)))=false):(1<=s.size/\s.size<=8)/\¬(1<s.size/\bz s 0=48):=by
 simp only[Bool.or_eq_false_iff,Bool.and_eq_false_iff,decide_eq_false_iff_not]at h
 omega
theorem zb (hi:i<s.size) (h:(decide (bz s i<48)||decide (bz s i>57))=true):bJ s=false:=by
 rw[jT]
 refine decide_eq_false λk=>?_
 have:=k.2.2 i hi
 unfold gA at this
 simp only[Bool.or_eq_true,Bool.and_eq_true,decide_eq_true_eq]at h this
 omega
theorem E5 (h:(decide (bz s i<48)||decide (bz s i>57))=false):gA (bz s i)=true/\48<=bz s i/\bz s i<=57:=by
 unfold gA
 simp only[Bool.or_eq_false_iff,Bool.and_eq_true,decide_eq_false_iff_not,decide_eq_true_eq]at *
 omega
theorem zL (hz:s.size<=1000000):K1 Tryz.prog 44 (pT s) (dF (pI (Au s)) (pB (bJ s))):=by
 intro M w0 v0 hM hv0
 refine fR (N:=49) Tryz.func44 rfl rfl rfl hM hv0 λa hI=>?_
 refine au hI 2 [Uc 0 2 _,Uc 1 3 _] (.k .z) ⟨mv,mv,trivial⟩ (.aU .z) λa w hI=>?_
 refine ah ?_
 refine au hI 18 [Uc 0 6 _,Uc 1 7 _,Uc 2 8 _,Uc 3 9 _,Uc 4 10 _,Uc 5 11 _,Uc 6 12 _,Uc 7 13 _,Uc 8 14 _,Uc 9 15 _,Uc 10 16 _,Uc 11 17 _,Uc 12 18 _,Uc 13 19 _,Uc 14 20 _,Uc 15 21 _,Uc 16 22 _,Uc 17 23 _] (.aU .z) ⟨mv,gF,bn,mv,gd λh=>cy h,gd λh=>gF (h:=hg) (hp:=pg h rfl),gd λh=>fS h,pk,mv,gd λh=>cy h,gd λh=>gF (h:=hg) (hp:=pg h rfl),gd λh=>fS h,gd λh=>cy h,sK λh=>cy h,sK λh=>lJ 0 (h:=hg) (hy:=.const _) (hk:=by have:=of_decide_eq_true h.2; omega) (hp:=pg h rfl),sK λh=>fS h,gd λh=>GO h,pk,trivial⟩ (.bj (.d8 (.d8 (.k .z)))) λa w hI=>?_
 refine nX hI (λt1=>?_) (λt1=>?_)
 ·
  refine au hI 2 [Uc 0 2 _,Uc 1 3 _] (.k (.t 0 (.t 1 (.k .z)))) ⟨mv,mv,trivial⟩ (.gE (.kk .z)) λa w hI=>?_
  refine av ?_
  refine aj ?_
  exact fe hI rfl (cm (hq:=bh (by unfold Au; rw[za t1]; rfl))) (cm (hq:=cQ (za t1).symm))
 ·
  have hsm:=zc t1
  refine ak ?_
  refine ae ?_
  refine au hI 1 [Uc 0 4 _] (.af .z) ⟨mv,trivial⟩ (.bj (.k .z)) λa w hI=>?_
  refine ah ?_
  refine au hI 1 [Uc 0 5 _] (.af .z) ⟨mv,trivial⟩ (.af (.k .z)) λa w hI=>?_
  refine aD ?_
  refine qz [] [Uz 0 _] (λ(i:Nat)=>[]) (λ(i:Nat)=>[Uz 5 (pI (i:Int)),Uz 4 (pI (mU s (i)))]) (λ(i:Nat)=>i<=s.size/\∀k,k<i->gA (bz s k)=true) (λ(i:Nat)=>s.size-i) (0) ⟨Nat.zero_le _,λ_ h=>absurd h (Nat.not_lt_zero _)⟩ hI trivial ⟨gi,gc,gc,trivial⟩ ?_
  intro i a w hp hI
  refine ah ?_
  refine au hI 4 [Uc 0 24 _,Uc 1 25 _,Uc 2 26 _,Uc 3 27 _] (.aU .z) ⟨mv,mv,gF,bn,trivial⟩ (.bj (.eC .z)) λa w hI=>?_
  refine jv hI (λt2=>?_) (λt2=>?_)
  ·
   refine ak ?_
   refine ae ?_
   refine ah ?_
   refine aD ?_
   refine ah ?_
   refine au hI 10 [Uc 0 30 _,Uc 1 31 _,Uc 2 32 _,Uc 3 33 _,Uc 4 34 _,Uc 5 35 _,Uc 6 36 _,Uc 7 37 _,Uc 8 38 _,Uc 9 39 _] (.af .z) ⟨mv,mv,lJ i,bn,mv,gd λh=>cy h,gd λh=>cy h,gd λh=>lJ i (h:=hg) (hy:=hg) (hp:=pg h rfl),gd λh=>fS h,pk,trivial⟩ (.bj (.d8 (.dk .z))) λa w hI=>?_
   refine nX hI (λt3=>?_) (λt3=>?_)
   ·
    refine au hI 2 [Uc 0 2 _,Uc 1 3 _] (.af .z) ⟨mv,mv,trivial⟩ (.bj (.kk .z)) λa w hI=>?_
    refine av ?_
    refine aj ?_
    refine aS ?_
    refine aj ?_
    refine aj ?_
    refine aS ?_
    refine aj ?_
    exact fe hI rfl (cm (hq:=bh (by unfold Au; rw[zb (by omega) t3]; rfl))) (cm (hq:=cQ (zb (by omega) t3).symm))
   ·
    have FW:=E5 t3
    have hnn:=E7 (s:=s) (k:=i) hp.1 (by omega) hp.2
    refine ak ?_
    refine ae ?_
    refine iP hI 9 [Uc 0 40 _,Uc 1 41 _,Uc 2 42 _,Uc 3 43 _,Uc 4 44 _,Uc 5 45 _,Uc 6 46 _,Uc 7 47 _,Uc 8 4 _] (.kk (.t 8 (.k .z))) ⟨mv,bn,mv,mv,lJ i,Kw,DU (hm:=by omega),bn,mv,trivial⟩ (.bK (.d8 (.k .z))) λa w hI=>?_
    refine bk ?_
    refine ae ?_
    refine iP hI 3 [Uc 0 28 _,Uc 1 29 _,Uc 2 5 _] (.k (.t 2 (.k .z))) ⟨mv,bn,mv,trivial⟩ (.pP (.dk .z)) λa w hI=>?_
    refine ae ?_
    exact nQ (i+1) ⟨by omega,λk hk=>if e:k=i then by rw[e]; exact FW.1 else hp.2 k (by omega)⟩ hI trivial ⟨gc,gc,gc,trivial⟩ (by omega)
  ·
   obtain rfl:i=s.size:=by omega
   have El:bJ s=true:=by
    rw[jT]
    exact decide_eq_true ⟨hsm.1,hsm.2,hp.2⟩
   refine cj ?_
   refine aC ?_
   refine aC ?_
   refine bf ?_
   refine ae ?_
   refine au hI 3 [Uc 0 48 _,Uc 1 2 _,Uc 2 3 _] (.af .z) ⟨mv,mv,mv,trivial⟩ (.bp (.xA .z)) λa w hI=>?_
   refine av ?_
   exact fe hI rfl (cm (hq:=bh (by unfold Au; rw[El,if_pos rfl,uK El]))) (cm (hq:=cQ El.symm))
end Wx
