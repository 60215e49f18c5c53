import Derived.Test.YtkcceahelokheaaGreatJLT33
namespace Wx
set_option maxRecDepth 100000
set_option maxHeartbeats 1000000
open Go Go.RowKit Go.Proofs
set_option linter.unusedVariables false
attribute [local irreducible] OpOk
variable {m:List Rat} {j:Nat}
theorem Kk (h:m.length=16/\j<=10000000):K1 Tryz.prog 132 (pV au j m) (pR (4*j+1) (vP m)):=by
 intro M w0 v0 hM hv0
 refine om (N:=14) Tryz.func132 rfl rfl rfl hM hv0 λa hI=>?_
 refine bf hI 2 [⟨1,1,some 0,none,.ptr,97,48,true,pv _,[]⟩,⟨2,2,some 1,none,.ptr,40,3,true,pv _,[]⟩] [] [] .z (.k .z) ⟨bo,fB [.r],trivial⟩ (.k (.k .z)) (.d .z) λa w hI=>?_
 refine mR hI [0,1,0,4,0,16,60,0,128,508,1023,2047] [] [⟨some 0,3,1,0,True⟩,⟨some 2,5,1,9,True⟩,⟨some 4,7,1,9,True⟩,⟨some 7,10,1,3,True⟩] [Uc 1 4 _,Uc 3 6 _,Uc 5 8 _,Uc 6 9 _,Uc 8 11 _,Uc 9 12 _,Uc 10 13 _] (.k (.u none [(11,pv _)] .z)) .z ⟨fa,lV 0,fa,lV 3,fa,lV 3,fZ cg,fa,lV 1,fZ cg,fZ sA,dM,trivial⟩ (.d (.s .o .z)) (.bh (.qy .z)) λa w hI=>?_
 refine aL ?_
 exact ck hI rfl r7
theorem yn (h:m.length=16/\j<=10000000):K1 Tryz.prog 103 (pV au j m) (pV au (7*j+1) (iS m)):=by
 intro M w0 v0 hM hv0
 refine om (N:=29) Tryz.func103 rfl rfl rfl hM hv0 λa hI=>?_
 refine bf hI 2 [⟨1,1,some 0,none,.ptr,97,48,true,pv _,[]⟩,⟨2,2,some 1,none,.ptr,182,12,true,pv _,[]⟩] [] [] .z (.k .z) ⟨bo,fB [.r,.r,.r,.r],trivial⟩ (.k (.k .z)) (.d .z) λa w hI=>?_
 refine bf hI 4 [⟨3,3,some 2,none,.ptr,40,3,true,pv _,[(3,pv _)]⟩] [] [Uc 0 5 _,Uc 1 6 _] (.k (.k .z)) .z ⟨ld,mS Kk,fB [.r],dM,trivial⟩ (.k (.k (.s .o .z))) (.dd .z) λa w hI=>?_
 refine mR hI [0,1,0,4,15,0,63,0,255] [⟨4,4,some 7,none,.ptr,40,3,true,pv _,[(8,pv _)]⟩] [⟨some 0,7,1,0,True⟩,⟨some 2,9,1,3,True⟩] [Uc 1 8 _,Uc 3 10 _,Uc 4 11 _,Uc 5 12 _,Uc 6 13 _] (.k (.k (.k .z))) .z ⟨fa,lV 0,fa,lV 1,fZ cg,ld,pq mD,fB [.r],dM,trivial⟩ (.k (.k (.k (.s .o .z)))) (.bh (.d .z)) λa w hI=>?_
 refine mR hI [0,1,0,4,15,0,63,0,0,256,0,1919,0,4096,16383,32767] [] [⟨some 0,14,1,0,True⟩,⟨some 2,16,1,0,True⟩,⟨some 8,22,1,9,True⟩,⟨some 12,26,1,6,True⟩] [Uc 1 15 _,Uc 3 17 _,Uc 4 18 _,Uc 5 19 _,Uc 6 20 _,Uc 7 21 _,Uc 9 23 _,Uc 10 24 _,Uc 11 25 _,Uc 13 27 _,Uc 14 28 _] (.k (.u none [(15,pv _)] (.k (.k .z)))) .z ⟨fa,lV 0,fa,lV 0,fZ cg,ld,pq mD,ld,fa,lV 3,ld,fZ cg,fa,lV 2,GR 3 [.o .r,.o .r,.o .r,.o .r] [(0,_),(1,_),(2,_),(3,_)],dM,trivial⟩ (.d (.s .o (.d (.d .z)))) (.d8 (.qy .z)) λa w hI=>?_
 refine aL ?_
 exact ck hI rfl r7
theorem Md {s:List Rat} (h:s.length=3/\j<=1000000):K1 Tryz.prog 97 (pV au j s) (pV au (4*j+66) (nY s)):=by
 intro M w0 v0 hM hv0
 refine om (N:=135) Tryz.func97 rfl rfl rfl hM hv0 λa hI=>?_
 refine bf hI 2 [⟨1,1,some 0,none,.ptr,186,9,true,pv _,[]⟩,⟨2,2,some 1,none,.ptr,184,108,true,pv _,[]⟩] [] [] .z (.k .z) ⟨bo,fB [.r,.r,.r,.r,.r,.r,.r,.r,.r,.r,.r,.r,.r,.r,.r,.r,.r,.r,.r,.r,.r,.r,.r,.r,.r,.r,.r,.r,.r,.r,.r,.r,.r,.r,.r,.r],trivial⟩ (.k (.k .z)) (.d .z) λa w hI=>?_
 refine bf hI 6 [⟨3,3,some 2,none,.ptr,40,3,true,pv _,[(4,pv _)]⟩,⟨4,4,some 3,none,.ptr,40,3,true,pv _,[(5,pv _)]⟩] [] [Uc 0 12 _,Uc 1 13 _] (.k (.k .z)) .z ⟨mS gT,mS gT,fB [.r],fB [.r],dM,dM,trivial⟩ (.k (.k (.s .o (.s .o .z)))) (.dd .z) λa w hI=>?_
 refine mR hI [0,1,0,4,15,0,32,0,128,511,0,1024,0,4096,16383,0,0,0,262143,524287,1048575] [⟨5,5,some 15,none,.ptr,40,3,true,pv _,[(18,pv _)]⟩,⟨6,6,some 16,none,.ptr,40,3,true,pv _,[(19,pv _)]⟩,⟨7,7,some 17,none,.ptr,40,3,true,pv _,[(20,pv _)]⟩] [⟨some 0,14,1,0,True⟩,⟨some 2,16,1,0,True⟩,⟨some 5,19,1,3,True⟩,⟨some 7,21,1,3,True⟩,⟨some 10,24,1,6,True⟩,⟨some 12,26,1,6,True⟩] [Uc 1 15 _,Uc 3 17 _,Uc 4 18 _,Uc 6 20 _,Uc 8 22 _,Uc 9 23 _,Uc 11 25 _,Uc 13 27 _,Uc 14 28 _] (.k (.k (.k (.k .z)))) .z ⟨fa,lV 0,fa,lV 0,fZ cg,fa,lV 1,fa,lV 1,fZ cg,fa,lV 2,fa,lV 2,fZ cg,fB [.r],fB [.r],fB [.r],dM,dM,dM,trivial⟩ (.k (.k (.k (.k (.s .o (.s .o (.s .o .z))))))) (.d8 (.d .z)) λa w hI=>?_
 refine bf hI 7 [⟨8,8,some 5,none,.ptr,40,3,true,pv _,[(6,pv _)]⟩] [⟨some 0,29,1,0,True⟩,⟨some 2,31,1,3,True⟩] [Uc 1 30 _,Uc 3 32 _,Uc 4 33 _] (.k (.k (.k (.k (.k (.k (.k .z))))))) .z ⟨fa,lV 0,fa,lV 1,fZ sA,fB [.r],dM,trivial⟩ (.k (.k (.k (.k (.k (.k (.k (.s .o .z)))))))) (.qy .z) λa w hI=>?_
 refine bf hI 5 [⟨9,9,some 3,none,.ptr,40,3,true,pv _,[(4,pv _)]⟩] [] [Uc 0 34 _,Uc 1 35 _,Uc 2 36 _] (.k (.k (.k (.k (.k (.k (.k (.k .z)))))))) .z ⟨ld,ld,fZ cg,fB [.r],dM,trivial⟩ (.k (.k (.k (.k (.k (.k (.k (.k (.s .o .z))))))))) (.qy .z) λa w hI=>?_
 refine bf hI 6 [⟨10,10,some 4,none,.ptr,40,3,true,pv _,[(5,pv _)]⟩] [⟨some 1,38,1,6,True⟩] [Uc 0 37 _,Uc 2 39 _,Uc 3 40 _] (.k (.k (.k (.k (.k (.k (.k (.k (.k .z))))))))) .z ⟨ld,fa,lV 2,fZ cg,fB [.r],dM,trivial⟩ (.k (.k (.k (.k (.k (.k (.k (.k (.k (.s .o .z)))))))))) (.qy .z) λa w hI=>?_
 refine bf hI 1 [⟨11,11,some 0,none,.ptr,184,108,true,pv _,[]⟩] [] [] (.k (.k (.k (.k (.k (.k (.k (.k (.k (.k .z)))))))))) .z ⟨lE (4*j+66) 36,trivial⟩ (.k (.k (.k (.k (.k (.k (.k (.k (.k (.k (.k .z))))))))))) .z λa w hI=>?_
 refine mR hI [0,0,0,0,0,24,63,0,255,511] [] [⟨some 7,48,11,0,True⟩,⟨some 8,49,11,0,True⟩] [Uc 0 41 _,Uc 1 42 _,Uc 2 43 _,Uc 3 44 _,Uc 4 45 _,Uc 5 46 _,Uc 6 47 _] (.k (.k (.k (.k (.k (.k (.k (.k (.k (.k (.u none [(9,pv _)] .z))))))))))) .z ⟨ld,ld,ld,ld,ld,fZ cg,GR 3 [.o .r,.o .r,.o .r,.o .r] [(0,_),(1,_),(2,_),(3,_)],fa,fa,sW 0,trivial⟩ (.k (.k (.k (.k (.k (.k (.k (.k (.k (.k (.s .o .z))))))))))) (.bh (.qy .z)) λa w hI=>?_
 refine mR hI [0,0,0,0,0,24,63,0,255,511] [] [⟨some 7,57,11,36,True⟩,⟨some 8,58,11,48,True⟩] [Uc 0 50 _,Uc 1 51 _,Uc 2 52 _,Uc 3 53 _,Uc 4 54 _,Uc 5 55 _,Uc 6 56 _] (.k (.k (.k (.k (.k (.k (.k (.k (.k (.k (.u none [(9,pv _)] .z))))))))))) .z ⟨ld,ld,ld,ld,ld,fZ cg,GR 3 [.o .r,.o .r,.o .r,.o .r] [(0,_),(1,_),(2,_),(3,_)],fa,fa,sW 16,trivial⟩ (.k (.k (.k (.k (.k (.k (.k (.k (.k (.k (.s .o .z))))))))))) (.bh (.qy .z)) λa w hI=>?_
 refine mR hI [0,0,0,0,12,0,0,124,252,511,0,2047,4095] [] [⟨some 10,69,11,0,True⟩,⟨some 11,70,11,12,True⟩] [Uc 0 59 _,Uc 1 60 _,Uc 2 61 _,Uc 3 62 _,Uc 4 63 _,Uc 5 64 _,Uc 6 65 _,Uc 7 66 _,Uc 8 67 _,Uc 9 68 _] (.k (.k (.k (.k (.k (.k (.k (.k (.k (.k (.u none [(12,pv _)] .z))))))))))) .z ⟨ld,ld,ld,ld,fZ ow,ld,ld,fZ cg,qi w8,GR 3 [.o .r,.o .r,.o .r,.o .r] [(0,_),(1,_),(2,_),(3,_)],fa,fa,sW 4,trivial⟩ (.k (.k (.k (.d (.d (.d (.k (.k (.k (.k (.s .o .z))))))))))) (.d8 (.dd .z)) λa w hI=>?_
 refine mR hI [0,0,0,4,0,0,60,127,0,511,1023] [] [⟨some 8,79,11,72,True⟩,⟨some 9,80,11,96,True⟩] [Uc 0 71 _,Uc 1 72 _,Uc 2 73 _,Uc 3 74 _,Uc 4 75 _,Uc 5 76 _,Uc 6 77 _,Uc 7 78 _] (.k (.k (.k (.k (.k (.k (.k (.u none [(10,pv _)] .z)))))))) .z ⟨ld,ld,ld,qi w8,ld,ld,fZ cg,GR 3 [.o .r,.o .r,.o .r,.o .r] [(0,_),(1,_),(2,_),(3,_)],fa,fa,sW 32,trivial⟩ (.k (.k (.k (.d (.d (.d (.k (.s .o .z)))))))) (.d8 .z) λa w hI=>?_
 refine mR hI [0,1,0,4,15,0,32,0,128,511,1023,0,4095,0,0,32767,65535,131071,0,524287,1048575] [] [⟨some 0,81,1,0,True⟩,⟨some 2,83,1,6,True⟩,⟨some 5,86,1,3,True⟩,⟨some 7,88,1,6,True⟩,⟨some 18,99,11,0,True⟩,⟨some 19,100,11,24,True⟩] [Uc 1 82 _,Uc 3 84 _,Uc 4 85 _,Uc 6 87 _,Uc 8 89 _,Uc 9 90 _,Uc 10 91 _,Uc 11 92 _,Uc 12 93 _,Uc 13 94 _,Uc 14 95 _,Uc 15 96 _,Uc 16 97 _,Uc 17 98 _] (.k (.k (.k (.k (.u none [(20,pv _)] .z))))) .z ⟨fa,lV 0,fa,lV 2,fZ cg,fa,lV 1,fa,lV 2,fZ cg,qi w8,ld,qi w8,ld,ld,fZ cg,qi w8,GR 3 [.o .r,.o .r,.o .r,.o .r] [(0,_),(1,_),(2,_),(3,_)],fa,fa,sW 8,trivial⟩ (.k (.k (.k (.k (.s .o .z))))) (.d8 (.bh (.dd .z))) λa w hI=>?_
 refine mR hI [0,1,0,4,15,0,32,0,128,511,1023,0,0,0,14335,32767,0,131071,262143] [] [⟨some 0,101,1,3,True⟩,⟨some 2,103,1,6,True⟩,⟨some 5,106,1,0,True⟩,⟨some 7,108,1,6,True⟩,⟨some 16,117,11,36,True⟩,⟨some 17,118,11,60,True⟩] [Uc 1 102 _,Uc 3 104 _,Uc 4 105 _,Uc 6 107 _,Uc 8 109 _,Uc 9 110 _,Uc 10 111 _,Uc 11 112 _,Uc 12 113 _,Uc 13 114 _,Uc 14 115 _,Uc 15 116 _] (.k (.k (.k (.k (.u none [(18,pv _)] .z))))) .z ⟨fa,lV 1,fa,lV 2,fZ cg,fa,lV 0,fa,lV 2,fZ cg,qi w8,ld,ld,ld,fZ cg,GR 3 [.o .r,.o .r,.o .r,.o .r] [(0,_),(1,_),(2,_),(3,_)],fa,fa,sW 20,trivial⟩ (.d (.k (.d (.d (.s .o .z))))) (.d8 (.bh .z)) λa w hI=>?_
 refine bf hI 18 [] [⟨some 0,119,11,0,True⟩,⟨some 1,120,11,12,True⟩,⟨some 3,122,11,0,True⟩,⟨some 4,123,11,24,True⟩,⟨some 6,125,11,36,True⟩,⟨some 7,126,11,60,True⟩,⟨some 9,128,11,36,True⟩,⟨some 10,129,11,36,True⟩,⟨some 12,130,11,72,True⟩,⟨some 13,131,11,72,True⟩,⟨some 15,132,11,72,True⟩,⟨some 16,133,11,84,True⟩] [Uc 2 121 _,Uc 5 124 _,Uc 8 127 _] (.k (.u none [(11,pv _),(14,pv _),(17,pv _)] .z)) .z ⟨fa,fa,lW 4 4,fa,fa,lW 8 4,fa,fa,lW 20 4,fa,fa,sP 12,fa,fa,sP 24,fa,fa,sP 28,trivial⟩ (.k (.s (.c (.c .o)) .z)) (.qy .z) λa w hI=>?_
 obtain⟨l,hl,he⟩:∃l:List Rat,l.length=36/\l=nY s:=⟨_,rfl,rfl⟩
 replace hI:=hI.cvS (q:=pV au (4*j+66) l) (.n (.h (cq (by subst he; kernel_rfl) (Nat.le_refl _))))
 refine bf hI 2 [] [] [Uc 0 134 _] (.u none [(1,pv _)] (.k .z)) .z ⟨ld,dM,trivial⟩ (.s .o (.d .z)) (.d .z) λa w hI=>?_
 refine aL ?_
 exact ck hI rfl (r7 (hq:=cq he (Nat.le_refl _)))
variable {p q:Int}
theorem VP (h:m.length=16/\j<=1000000 /\ -1048576<=p/\p<=1048576 /\ -1048576<=q/\q<=1048576):K2 Tryz.prog 111 (pV au j m) (pS [⟨false,1,pI p⟩,⟨false,1,pI q⟩]) (pV au (2*j+300) (BM m p q)):=by
 intro M w0 v0 v1 hM hv0 eI
 refine rG (N:=43) Tryz.func111 rfl rfl rfl hM hv0 eI λa hI=>?_
 refine bf hI 3 [⟨2,2,some 0,none,.ptr,97,48,true,pv _,[]⟩,⟨3,3,some 1,none,.ptr,66,2,true,pv _,[]⟩,⟨4,4,some 2,none,.ptr,43,9,true,pv _,[]⟩] [] [] .z (.kk .z) ⟨bo,bo,fB [.r,.r,.r],trivial⟩ (.k (.k (.k .z))) (.dd .z) λa w hI=>?_
 refine bf hI 4 [⟨5,5,some 2,none,.ptr,186,9,true,pv _,[(3,pv _)]⟩] [] [Uc 0 8 _,Uc 1 9 _] (.k (.k (.k .z))) .z ⟨ld,mS wk,fB [.r,.r,.r],dM,trivial⟩ (.k (.d (.k (.s .o .z)))) (.dd .z) λa w hI=>?_
 refine mR hI [0,1,3,0,8,24,0,0,199,511] [⟨6,6,some 6,none,.ptr,40,3,true,pv _,[(8,pv _)]⟩,⟨7,7,some 7,none,.ptr,40,3,true,pv _,[(9,pv _)]⟩] [⟨some 0,10,2,12,True⟩,⟨some 1,11,2,12,True⟩,⟨some 3,13,2,12,True⟩,⟨some 4,14,2,15,True⟩] [Uc 2 12 _,Uc 5 15 _] (.k (.k (.k .z))) .z ⟨fa,fa,lV 4,fa,fa,lV 5,fB [.r],fB [.r],dM,dM,trivial⟩ (.d (.k (.k (.s .o (.s .o .z))))) (.dd .z) λa w hI=>?_
 refine mR hI [0,0,2,7,0,0,32,127,255,0,0,1024,4095,0,0,16384,65535,131071,262143,0,0,2097151,4194303,0,8388608,33554431,67108863,134217727] [] [⟨some 1,17,5,0,True⟩,⟨some 5,21,5,3,True⟩,⟨some 10,26,5,3,True⟩,⟨some 14,30,5,0,True⟩,⟨some 23,39,5,6,True⟩] [Uc 0 16 _,Uc 2 18 _,Uc 3 19 _,Uc 4 20 _,Uc 6 22 _,Uc 7 23 _,Uc 8 24 _,Uc 9 25 _,Uc 11 27 _,Uc 12 28 _,Uc 13 29 _,Uc 15 31 _,Uc 16 32 _,Uc 17 33 _,Uc 18 34 _,Uc 19 35 _,Uc 20 36 _,Uc 21 37 _,Uc 22 38 _,Uc 24 40 _,Uc 25 41 _,Uc 26 42 _] (.u none [(27,pv _)] (.k (.k (.k .z)))) .z ⟨ld,fa,ld,fZ cg,ld,fa,ld,fZ cg,fZ ow,ld,fa,ld,fZ cg,ld,fa,ld,fZ cg,fZ ow,mS gT,ld,ld,fZ sA,fZ cg,fa,ld,fZ cg,GR 3 [.o .r,.o .r,.o .r] [(0,_),(1,_),(2,_)],dM,trivial⟩ (.s .o (.d (.d (.d .z)))) (.d8 (.d8 (.bh (.dd .z)))) λa w hI=>?_
 refine aL ?_
 exact ck hI rfl r7
theorem uG {b:List Rat} {J:Nat} (h:b.length=4/\1<=J/\J<=1000000 /\ -1048576<=p/\p<=1048576 /\ -1048576<=q/\q<=1048576):K2 Tryz.prog 102 (pV au J b) (pS [⟨false,1,pI p⟩,⟨false,1,pI q⟩]) (pV au (4*J+2400) (kP b (nY (cR p q)))):=by
 intro M w0 v0 v1 hM hv0 eI
 have hbd:=Uf h.2.1 hv0.out
 refine rG (N:=48) Tryz.func102 rfl rfl rfl hM hv0 eI λa hI=>?_
 refine bf hI 3 [⟨2,2,some 0,none,.ptr,182,12,true,pv _,[]⟩,⟨3,3,some 1,none,.ptr,66,2,true,pv _,[]⟩,⟨4,4,some 2,none,.ptr,75,27,true,pv _,[]⟩] [] [] .z (.kk .z) ⟨bo,bo,fB [.r,.r,.r,.r,.r,.r,.r,.r,.r],trivial⟩ (.k (.k (.k .z))) (.dd .z) λa w hI=>?_
 refine bf hI 1 [⟨5,5,some 0,none,.ptr,75,27,true,pv _,[]⟩] [] [] (.k (.k (.k .z))) .z ⟨lE (4*J+2400) 9,trivial⟩ (.k (.k (.k (.k .z)))) .z λa w hI=>?_
 refine bf hI 5 [⟨6,6,some 3,none,.ptr,184,108,true,pv _,[(4,pv _)]⟩] [] [Uc 0 11 _,Uc 1 12 _,Uc 2 13 _] (.k (.k (.k (.k .z)))) .z ⟨ld,mS wk,mS Md,fB [.r,.r,.r,.r,.r,.r,.r,.r,.r,.r,.r,.r,.r,.r,.r,.r,.r,.r,.r,.r,.r,.r,.r,.r,.r,.r,.r,.r,.r,.r,.r,.r,.r,.r,.r,.r],dM,trivial⟩ (.k (.d (.k (.k (.s .o .z))))) (.qy .z) λa w hI=>?_
 refine az ?_
 have W8:=hI.bdv 6 (by omega) rfl
 refine bf hI 1 [] [] [Uc 0 14 _] (.k (.k (.k (.k .z)))) .z ⟨mv,trivial⟩ (.k (.k (.k (.k .z)))) (.k .z) λa w hI=>?_
 refine aC ?_
 refine tN [Vz 2 2 182 12 true _,Vz 4 4 75 27 true _,Vz 6 6 184 108 true _] [] (λ(i:Nat)=>[Vz 5 5 75 27 true (pV au (4*J+2400) (jL b (nY (cR p q)) (3*i) (0)))]) (λ(i:Nat)=>[Uz 14 (pI (i:Int))]) (λ(i:Nat)=>i<=3) (λ(i:Nat)=>3-i) (0) (Nat.zero_le 3) hI ⟨vi,vi,vi,vC (cq JA.symm (Nat.le_refl _)),trivial⟩ ⟨gc,trivial⟩ ?_
 intro i a w hi hI
 refine bf hI 1 [] [] [Uc 0 15 _] (.k (.k (.k (.k .z)))) (.k .z) ⟨bn,trivial⟩ (.k (.k (.k (.k .z)))) (.kk .z) λa w hI=>?_
 refine az ?_
 refine mj hI (λt1=>?_) (λt1=>?_)
 ·
  refine aJ ?_
  refine ae ?_
  refine az ?_
  refine aC ?_
  refine bf hI 2 [] [] [Uc 0 16 _,Uc 1 7 _] (.k (.k (.k (.k .z)))) (.kk .z) ⟨mv,mv,trivial⟩ (.k (.k (.k (.k .z)))) (.nh .z) λa w hI=>?_
  refine bf hI 1 [] [] [Uc 0 17 _] (.k (.k (.k (.k .z)))) (.kk .z) ⟨mv,trivial⟩ (.k (.k (.k (.k .z)))) (.bS .z) λa w hI=>?_
  refine aC ?_
  refine tN [Vz 2 2 182 12 true _,Vz 4 4 75 27 true _,Vz 6 6 184 108 true _] [Uz 14 _,Uz 7 _] (λ(k:Nat)=>[Vz 5 5 75 27 true (pV au (4*J+2400) (jL b (nY (cR p q)) (3*i+k) (0)))]) (λ(k:Nat)=>[Uz 17 (pI (k:Int))]) (λ(k:Nat)=>k<=3) (λ(k:Nat)=>3-k) (0) (Nat.zero_le 3) hI ⟨vi,vi,vi,vc,trivial⟩ ⟨gi,gi,gc,trivial⟩ ?_
  intro k a w hk hI
  refine bf hI 1 [] [] [Uc 0 18 _] (.k (.k (.k (.k .z)))) (.bS .z) ⟨bn,trivial⟩ (.k (.k (.k (.k .z)))) (.ah .z) λa w hI=>?_
  refine az ?_
  refine mj hI (λt2=>?_) (λt2=>?_)
  ·
   refine aJ ?_
   refine ae ?_
   refine az ?_
   refine aC ?_
   refine bf hI 2 [] [] [Uc 0 19 _,Uc 1 8 _] (.k (.k (.k (.k .z)))) (.ah .z) ⟨mv,mv,trivial⟩ (.k (.k (.k (.k .z)))) (.cA (.dk .z)) λa w hI=>?_
   refine bf hI 2 [] [] [Uc 0 20 _,Uc 1 21 _] (.k (.k (.k (.k .z)))) (.ah .z) ⟨ld,mv,trivial⟩ (.k (.k (.k (.k .z)))) (.ah (.kk .z)) λa w hI=>?_
   refine aC ?_
   refine tN [Vz 2 2 182 12 true _,Vz 4 4 75 27 true _,Vz 6 6 184 108 true _] [Uz 14 _,Uz 7 _,Uz 17 _,Uz 8 _,Uz 20 _] (λ(n:Nat)=>[Vz 5 5 75 27 true (pV au (4*J+2400) (jL b (nY (cR p q)) (3*i+k) (n)))]) (λ(n:Nat)=>[Uz 21 (pI (n:Int))]) (λ(n:Nat)=>n<=4) (λ(n:Nat)=>4-n) (0) (Nat.zero_le 4) hI ⟨vi,vi,vi,vc,trivial⟩ ⟨gi,gi,gi,gi,gi,gc,trivial⟩ ?_
   intro n a w hn hI
   refine bf hI 1 [] [] [Uc 0 22 _] (.k (.k (.k (.k .z)))) (.ah (.kk .z)) ⟨bn,trivial⟩ (.k (.k (.k (.k .z)))) (.ah (.bS .z)) λa w hI=>?_
   refine az ?_
   refine mj hI (λt3=>?_) (λt3=>?_)
   ·
    refine aJ ?_
    refine ae ?_
    refine az ?_
    refine aC ?_
    refine bf hI 5 [⟨10,10,some 2,none,.ptr,40,3,true,pv _,[(4,pv _)]⟩] [] [Uc 0 23 _,Uc 1 24 _,Uc 3 9 _] (.k (.k (.k (.k .z)))) (.ah (.bS .z)) ⟨mv,Zm 4 n,fB [.r],mv,dM,trivial⟩ (.k (.k (.k (.k (.s .o .z))))) (.ah (.dI (.dk .z))) λa w hI=>?_
    have AB:=Nl (b:=b) (f:=nY (cR p q)) (t:=3*i+k) (j:=n)
    have hl2:=Ox (s:=cR p q)
    have hb:aZ (4*J+2400) ((jL b (nY (cR p q)) (3*i+k) n).getD (3*i+k) 0+b.getD n 0*(nY (cR p q)).getD (12*i+4*k+n) 0):=by
     rw[QE (by omega),show 12*i+4*k+n=4*(3*i+k)+n by omega]
     exact(yO hbd W8 (n+1)).mono (by have:=Nat.mul_le_mul_right (J+(4*128+66)+1) (show n+1<=4 by omega); omega)
    refine QK hI [0,0,0,0,4,28,60,0,0,0,0,256,2816,7936,16128,32640,65532,1,262143,524287] [] [⟨some 4,29,5,(i)*9,True⟩,⟨some 5,30,5,(i)*9+(k)*3,True⟩,⟨some 11,36,6,(i)*36,True⟩,⟨some 12,37,6,(i)*36+(k)*12,True⟩,⟨some 13,38,6,(i)*36+(k)*12+(n)*3,True⟩,⟨some 17,42,5,(i)*9,True⟩,⟨some 18,43,5,(i)*9+(k)*3,True⟩] [Uc 0 25 _,Uc 1 26 _,Uc 2 27 _,Uc 3 28 _,Uc 6 31 _,Uc 7 32 _,Uc 8 33 _,Uc 9 34 _,Uc 10 35 _,Uc 14 39 _,Uc 15 40 _,Uc 16 41 _] (.k (.k (.k (.u none [(19,pv _)] (.k .z))))) (.ah (.bS .z)) ⟨mv,mv,mv,mv,iA 3 9 i,iB 3 3 k,lV (3*(i)+(k)),ld,mv,mv,mv,iA 3 36 i,iB 3 12 k,iB 4 3 n,lV (12*(i)+4*(k)+(n)),fZ cg,fZ (yJ hb),iA 3 9 i,iB 3 3 k,sJ (3*(i)+(k)),trivial⟩ (.k (.k (.k (.s .o (.d .z))))) (.ah (.dI (.d8 (.qy .z)))) λa w hI=>?_
    refine aG ?_
    refine ae ?_
    refine qq hI 2 [] [] [Uc 0 44 _,Uc 1 21 _] (.k (.k (.k (.k .z)))) (.ah (.k (.t 1 .z))) ⟨bn,mv,trivial⟩ (.k (.k (.k (.k .z)))) (.ah (.nh .z)) λa w hI=>?_
    refine ae ?_
    have hs:(jL b (nY (cR p q)) (3*i+k) n).set (3*i+k) ((jL b (nY (cR p q)) (3*i+k) n).getD (3*i+k) 0+b.getD n 0*(nY (cR p q)).getD (12*i+4*k+n) 0)=jL b (nY (cR p q)) (3*i+k) (n+1):=by
     rw[show 12*i+4*k+n=4*(3*i+k)+n by omega]
     exact Jz (by omega)
    exact qR (n+1) (by omega) hI ⟨vc,vc,vc,vC (cq hs (Nat.le_refl _)),trivial⟩ ⟨gc,gc,gc,gc,gc,gc,trivial⟩ (by omega)
   ·
    refine bO ?_
    refine ak ?_
    refine ak ?_
    refine aH ?_
    refine aG ?_
    refine ae ?_
    refine qq hI 2 [] [] [Uc 0 45 _,Uc 1 17 _] (.k (.k (.k (.k .z)))) (.kk (.t 1 (.ah .z))) ⟨bn,mv,trivial⟩ (.k (.k (.k (.k .z)))) (.dI (.bh (.k .z))) λa w hI=>?_
    refine ae ?_
    obtain rfl:n=4:=by omega
    exact qR (k+1) (by omega) hI ⟨vc,vc,vc,vC (cq Jy (Nat.le_refl _)),trivial⟩ ⟨gc,gc,gc,trivial⟩ (by omega)
  ·
   refine bO ?_
   refine ak ?_
   refine ak ?_
   refine aH ?_
   refine aG ?_
   refine ae ?_
   have W8:=hI.bdv 6 (by omega) rfl
   refine qq hI 2 [] [] [Uc 0 46 _,Uc 1 14 _] (.k (.k (.k (.k .z)))) (.t 1 (.bS .z)) ⟨bn,mv,trivial⟩ (.k (.k (.k (.k .z)))) (.bh (.dk .z)) λa w hI=>?_
   refine ae ?_
   obtain rfl:k=3:=by omega
   exact qR (i+1) (by omega) hI ⟨vc,vc,vc,vC (cq (l:=jL b (nY (cR p q)) (3*i+3) 0) (by rw[show 3*i+3=3*(i+1) by omega]) (Nat.le_refl _)),trivial⟩ ⟨gc,trivial⟩ (by omega)
 ·
  refine bO ?_
  refine ak ?_
  refine ak ?_
  refine aH ?_
  refine ae ?_
  obtain rfl:i=3:=by omega
  refine bf hI 2 [] [] [Uc 0 47 _] (.k (.u none [(1,pv _)] (.k (.k .z)))) (.kk .z) ⟨ld,dM,trivial⟩ (.d (.s .o (.d (.d .z)))) (.qy .z) λa w hI=>?_
  refine aL ?_
  exact ck hI rfl (r7 (hq:=cq Nk (Nat.le_refl _)))
end Wx

namespace Wx
set_option maxRecDepth 100000
set_option maxHeartbeats 1000000
open Go Go.RowKit Go.Proofs
set_option linter.unusedVariables false
attribute [local irreducible] OpOk
def wq:List Rat->Int
 |[] => -1
 |x::l=>if dK x<=0 then 0 else if wq l<0 then -1 else wq l+1
theorem Fu:∀{l:List Rat},(∀q,q<l.length->¬dK (l.getD q 0)<=0)->wq l = -1
 |[],_=>rfl
 |x::l,h=>by
  show(if dK x<=0 then(0:Int)else if wq l<0 then -1 else wq l+1) = -1
  rw[if_neg (show ¬dK x<=0 from h 0 (by rw[List.length_cons]; omega)),Fu λq hq=>h (q+1) (by rw[List.length_cons]; omega)]
  rfl
theorem Ko:∀{l:List Rat} {i:Nat},i<l.length->(∀q,q<i->¬dK (l.getD q 0)<=0)->dK (l.getD i 0)<=0->wq l=(i:Int)
 |[],_,h,_,_=>absurd h (Nat.not_lt_zero _)
 |x::l,0,_,_,hn=>by
  show(if dK x<=0 then(0:Int)else if wq l<0 then -1 else wq l+1)=0
  rw[if_pos (show dK x<=0 from hn)]
 |x::l,i+1,hi,h,hn=>by
  show(if dK x<=0 then(0:Int)else if wq l<0 then -1 else wq l+1)=_
  rw[if_neg (show ¬dK x<=0 from h 0 (by omega)),Ko (by rw[List.length_cons]at hi; omega) (λq hq=>h (q+1) (by omega)) hn,if_neg (by omega)]
  rfl
variable {j:Nat}
theorem Zu {x:Rat} (_:True):K1 Tryz.prog 134 (pR j x) (pB (decide (dK x<=0))):=by
 intro M w0 v0 hM hv0
 refine om (N:=6) Tryz.func134 rfl rfl rfl hM hv0 λa hI=>?_
 refine bf hI 2 [⟨1,1,some 0,none,.ptr,40,3,true,pv _,[]⟩] [] [Uc 1 2 _] .z (.k .z) ⟨bo,mv,trivial⟩ (.k .z) (.dk .z) λa w hI=>?_
 refine bf hI 4 [] [] [Uc 0 3 _,Uc 1 4 _,Uc 2 5 _,Uc 3 2 _] (.k .z) (.t 3 .z) ⟨ld,qi GI,bn,mv,trivial⟩ (.d .z) (.bh (.k .z)) λa w hI=>?_
 refine aL ?_
 exact ck hI rfl iu
variable {l:List Rat}
theorem R2 (h:l.length<=100):K2 Tryz.prog 169 (aA 3 true l.length λk=>pR j (l.getD k 0)) (bg (.func (.func 134) #[] #[])) (pI (wq l)):=by
 intro M w0 v0 v1 hM hv0 eI
 refine rG (N:=19) Tryz.func169 rfl rfl rfl hM hv0 eI λa hI=>?_
 refine bM hI 1 [Uc 0 4 _] (.kk .z) ⟨mv,trivial⟩ (.bS .z) λa w hI=>?_
 refine az ?_
 refine bM hI 3 [Uc 0 6 _,Uc 1 7 _,Uc 2 8 _] (.bS .z) ⟨mv,ln,mv,trivial⟩ (.cA (.kk .z)) λa w hI=>?_
 refine aC ?_
 refine tN [] [Uz 0 _,Uz 1 _,Uz 7 _] (λ(i:Nat)=>[]) (λ(i:Nat)=>[Uz 8 (pI (i:Int))]) (λ(i:Nat)=>i<=l.length/\∀q,q<i->¬dK (l.getD q 0)<=0) (λ(i:Nat)=>l.length-i) (0) ⟨Nat.zero_le _,λ_ h=>absurd h (Nat.not_lt_zero _)⟩ hI trivial ⟨gi,gi,gi,gc,trivial⟩ ?_
 intro i a w hi hI
 refine bM hI 1 [Uc 0 9 _] (.ah .z) ⟨bn,trivial⟩ (.ah (.k .z)) λa w hI=>?_
 refine az ?_
 refine mj hI (λt1=>?_) (λt1=>?_)
 ·
  refine aJ ?_
  refine ae ?_
  refine az ?_
  refine aC ?_
  refine bM hI 2 [Uc 0 10 _,Uc 1 5 _] (.ah (.k .z)) ⟨mv,mv,trivial⟩ (.ah (.lQ .z)) λa w hI=>?_
  refine bM hI 6 [Uc 0 11 _,Uc 1 12 _,Uc 2 13 _,Uc 3 14 _,Uc 4 15 _,Uc 5 16 _] (.ah (.k .z)) ⟨mv,mv,mv,ix,ld,XP Zu,trivial⟩ (.ah (.dx (.lQ .z))) λa w hI=>?_
  refine mj hI (λt2=>?_) (λt2=>?_)
  ·
   refine bM hI 2 [Uc 0 17 _,Uc 1 4 _] (.ah (.kk .z)) ⟨mv,mv,trivial⟩ (.ah (.dw .z)) λa w hI=>?_
   refine aL ?_
   refine bj ?_
   refine aB ?_
   refine aB ?_
   refine bj ?_
   refine aB ?_
   exact ck hI rfl (iu (hq:=bk (Ko (by omega) hi.2 t2).symm))
  ·
   refine aJ ?_
   refine aG ?_
   refine ae ?_
   refine Ed hI 2 [Uc 0 18 _,Uc 1 8 _] (.bS (.t 1 (.kk .z))) ⟨bn,mv,trivial⟩ (.cA (.dw .z)) λa w hI=>?_
   refine ae ?_
   exact qR (i+1) ⟨by omega,λq hq=>if e:q=i then by rw[e]; exact t2 else hi.2 q (by omega)⟩ hI trivial ⟨gc,gc,gc,gc,trivial⟩ (by omega)
 ·
  refine bO ?_
  refine ak ?_
  refine ak ?_
  refine aH ?_
  refine ae ?_
  refine bM hI 1 [Uc 0 4 _] (.ah (.k .z)) ⟨mv,trivial⟩ (.bh (.dk .z)) λa w hI=>?_
  refine aL ?_
  exact ck hI rfl (iu (hq:=bk (Fu λq hq=>hi.2 q (by omega)).symm))
theorem Ir (h:l.length<=100):K2 Tryz.prog 133 (aA 3 true l.length λk=>pR j (l.getD k 0)) (bg (.func (.func 134) #[] #[])) (pB (decide (wq l>=0))):=by
 intro M w0 v0 v1 hM hv0 eI
 refine rG (N:=9) Tryz.func133 rfl rfl rfl hM hv0 eI λa hI=>?_
 refine bM hI 1 [Uc 0 4 _] (.kk .z) ⟨mv,trivial⟩ (.bS .z) λa w hI=>?_
 refine bM hI 5 [Uc 0 5 _,Uc 1 6 _,Uc 2 7 _,Uc 3 8 _,Uc 4 4 _] (.kk (.t 4 .z)) ⟨mv,mv,pq R2,bn,mv,trivial⟩ (.bh (.dw .z)) λa w hI=>?_
 refine aL ?_
 exact ck hI rfl iu
def yK (m:List Rat):List Rat:=(([m.getD 0 0,m.getD 1 0,m.getD 2 0,vP m,m.getD 10 0]++(m.drop 6).take 2)++(m.drop 8).take 2)++(m.drop 11).take 5
def tv (m:List Rat):Int:=if decide (dK (m.getD 3 0)<0)||decide (wq (yK m)>=0)then 1 else 0
theorem lD {m:List Rat} (h:m.length=16/\1<=j/\j<=1000000):K1 Tryz.prog 85 (pV au (j) m) (pI (tv m)):=by
 intro M w0 v0 hM hv0
 refine om (N:=33) Tryz.func85 rfl rfl rfl hM hv0 λa hI=>?_
 refine bM hI 2 [Uc 0 1 _,Uc 1 2 _] (.k .z) ⟨AK 48 true,mv,trivial⟩ (.Ok .z) λa w hI=>?_
 refine adP hI [0,1,0,4,0,16,0,64,0,256,1023,2047] [Uc 0 4 _,Uc 1 5 _,Uc 2 6 _,Uc 3 7 _,Uc 4 8 _,Uc 5 9 _,Uc 6 10 _,Uc 7 11 _,Uc 8 12 _,Uc 9 13 _,Uc 10 14 _,Uc 11 3 _] (.kk .z) ⟨fQ 0,ld,fQ 1,ld,fQ 2,ld,ld,mS Kk,fQ 10,ld,bsA 40 (4*j+1) [(0,_),(1,_),(2,_),(3,_),(4,_)],mv,trivial⟩ (.dI (.d8 (.dk .z))) λa w hI=>?_
 refine mR hI [0,0,2,7,0,16,63,0,128,511,1023] [⟨18,18,some 3,some 6,.grow 7 3,40,3,true,pv cY,[]⟩,⟨21,21,some 6,some 9,.grow 9 3,40,3,true,pv cY,[]⟩,⟨24,24,some 9,some 10,.grow 14 3,40,3,true,pv cY,[]⟩,⟨3,3,some 10,none,.grow 14 3,40,3,true,pv cY,[]⟩] [] [Uc 0 15 _,Uc 1 16 _,Uc 2 17 _,Uc 3 18 _,Uc 4 19 _,Uc 5 20 _,Uc 6 21 _,Uc 7 22 _,Uc 8 23 _,Uc 9 24 _,Uc 10 3 _] .z (.kk (.t 10 .z)) ⟨mv,fW 6 2,WC 2 (4*j+1),apF,fW 8 2,WC 2 (4*j+1),Z7,fW 11 5,WC 5 (4*j+1),Z7,asG,trivial⟩ (.d (.d (.d (.d .z)))) (.dI (.d8 (.dk .z))) λa w hI=>?_
 refine az ?_
 have acD:(yK m).length=14:=by simp[yK]; omega
 have hl15:(yK m).length<=100:=by omega
 refine bM hI 8 [Uc 0 25 _,Uc 1 26 _,Uc 2 27 _,Uc 3 28 _,Uc 4 29 _,Uc 5 30 _,Uc 6 31 _,Uc 7 32 _] (.bS .z) ⟨fQ 3,ld,qi GI,bn,mv,gd λh=>yf h,gd λh=>RD h (Ir (l:=yK m) (j:=4*j+1)) (c1:=Wr acD.symm),pk,trivial⟩ (.LC (.bh (.lQ .z))) λa w hI=>?_
 refine Cy hI (λt1=>?_) (λt1=>?_)
 ·
  refine bM hI 1 [Uc 0 2 _] (.t 0 (.k .z)) ⟨mv,trivial⟩ (.lQ .z) λa w hI=>?_
  refine aL ?_
  refine aB ?_
  exact ck hI rfl (iu (hq:=bk (by unfold tv; rw[if_pos t1])))
 ·
  refine aJ ?_
  refine ae ?_
  refine bM hI 1 [Uc 0 2 _] (.t 0 (.k .z)) ⟨mv,trivial⟩ (.lQ .z) λa w hI=>?_
  refine aL ?_
  exact ck hI rfl (iu (hq:=bk (by unfold tv; rw[if_neg (by rw[t1]; exact Bool.false_ne_true)])))
end Wx

namespace Wx
set_option maxRecDepth 100000
set_option maxHeartbeats 1000000
open Go Go.RowKit Go.Proofs
set_option linter.unusedVariables false
attribute [local irreducible] OpOk
def A9 (n:Nat) (x:bK):Int:=if decide (x.gP<0)||decide (x.gP>=(n:Int))then 40 else lZ x
def sM (n:Nat) (S:List bK):Bool:=((decide ((n:Int)<1)||decide ((n:Int)>8))||decide ((S.length:Int)<1))||decide ((S.length:Int)>64)
def fR (n:Nat) (E:Nat->Int) (S:List bK):Int:=if sM n S then 4 else if ij E n=0 then ij (λi=>A9 n (ai S i)) S.length else ij E n
variable {n:Nat} {S:List bK}
theorem Du {g:FuncId} {sz:Nat} {ag:Bool} {q:Pred} {E:Nat->Int} (h:(aR Tryz.prog g/\∀k,k<n->∀(M:Nat->Nat->Prop) (w:World) (v0 v1:Value),cL M w->aO M (λw=>pI (k:Int) w v0) w->aO M (λw=>cZ sz ag q w v1) w->Calls Tryz.prog g #[v0,v1] w (bH M (pI (E k)) w))/\n<=1000000/\S.length<=1000000):K3 Tryz.prog 91 (pI (n:Int)) (tE g sz ag q) (aA 4 true S.length λi=>cP (ai S i)) (pI (fR n E S)):=by
 intro M w0 v0 v1 v2 hM hv0 eI hv2
 have hz:=h.2
 refine WJ (N:=60) Tryz.func91 rfl rfl rfl hM hv0 eI hv2 λa hI=>?_
 refine bM hI 1 [Uc 0 6 _] (.bS .z) ⟨mv,trivial⟩ (.ah .z) λa w hI=>?_
 refine az ?_
 refine bM hI 16 [Uc 0 12 _,Uc 1 13 _,Uc 2 14 _,Uc 3 15 _,Uc 4 16 _,Uc 5 17 _,Uc 6 18 _,Uc 7 19 _,Uc 8 20 _,Uc 9 21 _,Uc 10 22 _,Uc 11 23 _,Uc 12 24 _,Uc 13 25 _,Uc 14 26 _,Uc 15 27 _] (.ah .z) ⟨mv,bn,mv,gd λh=>yf h,gd λh=>ya h,pk,mv,gd λh=>yf h,gd λh=>W4 h,gd λh=>ya h,pk,mv,gd λh=>yf h,gd λh=>W4 h,gd λh=>ya h,pk,trivial⟩ (.ah (.d8 (.bh (.dw .z)))) λa w hI=>?_
 refine Cy hI (λt1=>?_) (λt1=>?_)
 ·
  refine bM hI 1 [Uc 0 6 _] (.bS (.t 0 (.k .z))) ⟨mv,trivial⟩ (.cA (.dk .z)) λa w hI=>?_
  refine aL ?_
  refine aB ?_
  exact ck hI rfl (iu (hq:=bk (by unfold fR sM; rw[if_pos t1])))
 ·
  refine aJ ?_
  refine ae ?_
  refine az ?_
  refine bM hI 2 [Uc 0 28 _,Uc 1 29 _] (.ah (.k .z)) ⟨mv,mv,trivial⟩ (.ah (.Ok .z)) λa w hI=>?_
  refine aC ?_
  refine tN [] [Uz 0 _,Uz 1 _,Uz 2 _,Uz 28 _] (λ(i:Nat)=>[]) (λ(i:Nat)=>[Uz 29 (pI (i:Int))]) (λ(i:Nat)=>i<=n/\∀q,q<i->E q=0) (λ(i:Nat)=>n-i) (0) ⟨Nat.zero_le _,λ_ h=>absurd h (Nat.not_lt_zero _)⟩ hI trivial ⟨gi,gi,gi,gi,gc,trivial⟩ ?_
  intro i a w hi hI
  refine bM hI 1 [Uc 0 30 _] (.ah (.k .z)) ⟨bn,trivial⟩ (.ah (.kk .z)) λa w hI=>?_
  refine az ?_
  refine mj hI (λt2=>?_) (λt2=>?_)
  ·
   refine aJ ?_
   refine ae ?_
   refine az ?_
   refine aC ?_
   refine bM hI 2 [Uc 0 31 _,Uc 1 7 _] (.ah (.kk .z)) ⟨mv,mv,trivial⟩ (.ah (.nh .z)) λa w hI=>?_
   refine bM hI 4 [Uc 0 32 _,Uc 1 33 _,Uc 2 34 _,Uc 3 8 _] (.ah (.kk .z)) ⟨mv,mv,cc1 h.1.1 (h.1.2 i (by omega)),mv,trivial⟩ (.ah (.dx (.dk .z))) λa w hI=>?_
   refine bM hI 2 [Uc 0 35 _,Uc 1 36 _] (.ah (.kk .z)) ⟨mv,bn,trivial⟩ (.ah (.sq .z)) λa w hI=>?_
   refine mj hI (λt3=>?_) (λt3=>?_)
   ·
    refine bM hI 2 [Uc 0 37 _,Uc 1 6 _] (.ah (.bS .z)) ⟨mv,mv,trivial⟩ (.ah (.dx (.k .z))) λa w hI=>?_
    refine aL ?_
    refine bj ?_
    refine aB ?_
    refine aB ?_
    refine bj ?_
    refine aB ?_
    exact ck hI rfl (iu (hq:=bk (by unfold fR sM; rw[if_neg (by rw[t1]; exact Bool.false_ne_true),rL t3 hi.2 (by omega),if_neg t3])))
   ·
    refine aJ ?_
    refine aG ?_
    refine ae ?_
    refine Ed hI 2 [Uc 0 38 _,Uc 1 29 _] (.ah (.t 1 (.kk .z))) ⟨bn,mv,trivial⟩ (.ah (.bh (.k .z))) λa w hI=>?_
    refine ae ?_
    exact qR (i+1) ⟨by omega,λq hq=>if e:q=i then by rw[e]; exact Decidable.not_not.1 t3 else hi.2 q (by omega)⟩ hI trivial ⟨gc,gc,gc,gc,gc,trivial⟩ (by omega)
  ·
   refine bO ?_
   refine ak ?_
   refine ak ?_
   refine aH ?_
   refine ae ?_
   refine az ?_
   have hz0:ij E n=0:=ke λq hq=>hi.2 q (by omega)
   refine bM hI 3 [Uc 0 39 _,Uc 1 40 _,Uc 2 41 _] (.ah (.kk .z)) ⟨mv,ln,mv,trivial⟩ (.dx (.xI (.k .z))) λa w hI=>?_
   refine aC ?_
   refine tN [] [Uz 0 _,Uz 39 _,Uz 40 _] (λ(j:Nat)=>[]) (λ(j:Nat)=>[Uz 41 (pI (j:Int))]) (λ(j:Nat)=>j<=S.length/\∀q,q<j->A9 n (ai S q)=0) (λ(j:Nat)=>S.length-j) (0) ⟨Nat.zero_le _,λ_ h=>absurd h (Nat.not_lt_zero _)⟩ hI trivial ⟨gi,gi,gi,gc,trivial⟩ ?_
   intro j a w hj hI
   refine bM hI 1 [Uc 0 42 _] (.ah .z) ⟨bn,trivial⟩ (.ah (.k .z)) λa w hI=>?_
   refine az ?_
   refine mj hI (λt4=>?_) (λt4=>?_)
   ·
    refine aJ ?_
    refine ae ?_
    refine az ?_
    refine aC ?_
    refine bf hI 4 [⟨10,10,some 2,none,.ptr,68,4,true,pv _,[(3,pv _)]⟩] [] [Uc 0 43 _,Uc 1 44 _] .z (.ah (.k .z)) ⟨ix,ld,fB [.i,.i,.i,.i],dM,trivial⟩ (.s .o .z) (.ah (.qy .z)) λa w hI=>?_
    refine az ?_
    refine bf hI 9 [] [⟨some 0,45,10,0,True⟩,⟨some 4,49,10,0,_⟩] [Uc 1 46 _,Uc 2 47 _,Uc 3 48 _,Uc 5 50 _,Uc 6 51 _,Uc 7 52 _,Uc 8 53 _] (.k .z) (.ah .z) ⟨fa,ld,bn,mv,gd λh=>mZ h,gd λh=>Fa h,gd λh=>yf h,gd λh=>ya h,pk,trivial⟩ (.k .z) (.ah (.bh (.lQ .z))) λa w hI=>?_
    refine Cy hI (λt5=>?_) (λt5=>?_)
    ·
     refine bf hI 1 [] [] [Uc 0 6 _] (.k .z) (.ah (.k .z)) ⟨mv,trivial⟩ (.k .z) (.ah (.dk .z)) λa w hI=>?_
     refine aL ?_
     refine aB ?_
     refine bj ?_
     refine aB ?_
     refine aB ?_
     refine bj ?_
     refine aB ?_
     exact ck hI rfl (iu (hq:=bk (by unfold fR sM; rw[if_neg (by rw[t1]; exact Bool.false_ne_true),if_pos hz0,rL (i:=j) (by unfold A9; rw[if_pos t5]; decide) hj.2 (by omega)]; unfold A9; rw[if_pos t5])))
    ·
     refine aJ ?_
     refine ae ?_
     refine bf hI 3 [] [] [Uc 0 54 _,Uc 1 55 _,Uc 2 11 _] (.k .z) (.ah (.k .z)) ⟨ld,mS zD,mv,trivial⟩ (.d .z) (.ah (.dw .z)) λa w hI=>?_
     refine bM hI 2 [Uc 0 56 _,Uc 1 57 _] (.ah (.k .z)) ⟨mv,bn,trivial⟩ (.ah (.L8 .z)) λa w hI=>?_
     refine mj hI (λt6=>?_) (λt6=>?_)
     ·
      refine bM hI 2 [Uc 0 58 _,Uc 1 6 _] (.ah (.kk .z)) ⟨mv,mv,trivial⟩ (.ah (.dw .z)) λa w hI=>?_
      refine aL ?_
      refine bj ?_
      refine aB ?_
      refine aB ?_
      refine bj ?_
      refine aB ?_
      exact ck hI rfl (iu (hq:=bk (by unfold fR sM; rw[if_neg (by rw[t1]; exact Bool.false_ne_true),if_pos hz0,rL (i:=j) (by unfold A9; rw[if_neg (by rw[t5]; exact Bool.false_ne_true)]; exact t6) hj.2 (by omega)]; unfold A9; rw[if_neg (by rw[t5]; exact Bool.false_ne_true)]; rfl)))
     ·
      refine aJ ?_
      refine aG ?_
      refine ae ?_
      refine Ed hI 2 [Uc 0 59 _,Uc 1 41 _] (.bS (.t 1 (.kk .z))) ⟨bn,mv,trivial⟩ (.cA (.dw .z)) λa w hI=>?_
      refine ae ?_
      exact qR (j+1) ⟨by omega,λq hq=>if e:q=j then by rw[e]; unfold A9; rw[if_neg (by rw[t5]; exact Bool.false_ne_true)]; exact Decidable.not_not.1 t6 else hj.2 q (by omega)⟩ hI trivial ⟨gc,gc,gc,gc,trivial⟩ (by omega)
   ·
    refine bO ?_
    refine ak ?_
    refine ak ?_
    refine aH ?_
    refine ae ?_
    refine bM hI 1 [Uc 0 6 _] (.ah (.k .z)) ⟨mv,trivial⟩ (.bh (.dk .z)) λa w hI=>?_
    refine aL ?_
    exact ck hI rfl (iu (hq:=bk (by unfold fR sM; rw[if_neg (by rw[t1]; exact Bool.false_ne_true),if_pos hz0,ke λq hq=>hj.2 q (by omega)])))
variable {J:Nat} {ms:Nat->List Rat}
theorem VR {k:Nat} (h:k<n/\(ms k).length=16/\1<=J/\J<=1000000):K2 Tryz.prog 92 (pI (k:Int)) (cZ 1 false (aA 48 true n λi=>pV au J (ms i))) (pI (tv (ms k))):=by
 intro M w0 v0 v1 hM hv0 eI
 refine rG (N:=9) Tryz.func92 rfl rfl rfl hM hv0 eI λa hI=>?_
 refine bM hI 1 [Uc 0 3 _] (.kk .z) ⟨mv,trivial⟩ (.bS .z) λa w hI=>?_
 refine bM hI 6 [Uc 0 4 _,Uc 1 5 _,Uc 2 6 _,Uc 3 7 _,Uc 4 8 _,Uc 5 3 _] (.kk (.t 5 .z)) ⟨ld,mv,ix,ld,mS lD,mv,trivial⟩ (.d8 (.k .z)) λa w hI=>?_
 refine aL ?_
 exact ck hI rfl iu
theorem uF (h:(∀k,k<n->(ms k).length=16)/\1<=J/\J<=1000000/\n<=1000000/\S.length<=1000000):K2 Tryz.prog 43 (aA 48 true n λi=>pV au J (ms i)) (aA 4 true S.length λi=>cP (ai S i)) (pI (fR n (λk=>tv (ms k)) S)):=by
 intro M w0 v0 v1 hM hv0 eI
 refine rG (N:=10) Tryz.func43 rfl rfl rfl hM hv0 eI λa hI=>?_
 refine bM hI 2 [Uc 0 2 _,Uc 1 4 _] (.kk .z) ⟨AK 1 false,mv,trivial⟩ (.mw .z) λa w hI=>?_
 refine bM hI 6 [Uc 0 5 _,Uc 1 6 _,Uc 2 7 _,Uc 3 8 _,Uc 4 9 _,Uc 5 4 _] (.kk (.t 5 .z)) ⟨ld,ln,mkC,mv,WS (Du (n:=n) (E:=λk=>tv (ms k))) (hφ:=⟨⟨λ_ _=>by kernel_rfl,λk hk=>VR (n:=n) (J:=J) (ms:=ms) ⟨hk,h.1 k hk,h.2.1,h.2.2.1⟩⟩,h.2.2.2⟩),mv,trivial⟩ (.d8 (.k .z)) λa w hI=>?_
 refine aL ?_
 exact ck hI rfl iu
end Wx
