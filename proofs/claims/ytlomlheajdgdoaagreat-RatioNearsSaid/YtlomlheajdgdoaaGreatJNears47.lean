import Derived.Handy
import Derived.KernelRfl
import Derived.Test.YtlomlheajdgdoaaGreatProg
import Derived.Test.YtlomlheajdgdoaaGreatJNears0
import Derived.Test.YtlomlheajdgdoaaGreatJNears1
import Derived.Test.YtlomlheajdgdoaaGreatCRat1
import Derived.Test.YtlomlheajdgdoaaGreatJNears10
import Derived.Test.YtlomlheajdgdoaaGreatJNears12
import Derived.Test.YtlomlheajdgdoaaGreatJNears20
import Derived.Test.YtlomlheajdgdoaaGreatCSem
import Derived.Test.YtlomlheajdgdoaaGreatCSemOps
import Derived.Test.YtlomlheajdgdoaaGreatCSemMem
import Derived.Test.YtlomlheajdgdoaaGreatCSemCode
import Derived.Test.YtlomlheajdgdoaaGreatJNears30
import Derived.Test.YtlomlheajdgdoaaGreatJNears31
import Derived.Test.YtlomlheajdgdoaaGreatJNears32
import Derived.Test.YtlomlheajdgdoaaGreatJNears37
import Derived.Test.YtlomlheajdgdoaaGreatCNums
import Derived.Test.YtlomlheajdgdoaaGreatCPlainFloat3
import Derived.Test.YtlomlheajdgdoaaGreatCMathF
import Derived.Test.YtlomlheajdgdoaaGreatCNearest
import Derived.Test.YtlomlheajdgdoaaGreatJNears42
import Derived.Test.YtlomlheajdgdoaaGreatJNears13
import Derived.Test.YtlomlheajdgdoaaGreatJNears24
import Derived.Test.YtlomlheajdgdoaaGreatJNears25
import Derived.Test.YtlomlheajdgdoaaGreatJNears35
import Derived.Test.YtlomlheajdgdoaaGreatCNNear
namespace Wx
open Go Go.RowKit Go.Proofs
set_option linter.unusedVariables false

theorem cells_int3 (w : World) : pCells [⟨false, 1, pI 0⟩, ⟨false, 1, pI 0⟩, ⟨false, 1, pI 0⟩] w [.int .i64 0, .int .i64 0, .int .i64 0] := ⟨by simp, rfl, by simp, rfl, by simp, rfl, rfl⟩
set_option maxRecDepth 100000 in
theorem c_long  : ∀ (M : Nat → Nat → Prop) (w : World), Mid M w → Calls Tryz.prog 65 #[] w (RetB M (pS [⟨false, 1, pI 53⟩, ⟨false, 1, pI (-1074)⟩, ⟨false, 1, pI 1024⟩]) w) := by
  intro M w0  hM 
  refine calls_start (N := 2) Tryz.func65 rfl rfl rfl hM (show EntsA M w0 [] [] from trivial) fun a hI => ?_
  refine seq_text (V1 := [⟨0, 0, some 0, none, .ptr, 102, 3, true, pv (pS [⟨false, 1, pI 0⟩, ⟨false, 1, pI 0⟩, ⟨false, 1, pI 0⟩]), []⟩]) (A1 := []) (G1 := []) (V2 := [⟨0, 0, none, none, .ptr, 102, 3, true, pv (pS [⟨false, 1, pI 0⟩, ⟨false, 1, pI 0⟩, ⟨false, 1, pI 0⟩]), []⟩]) (G2 := []) hI rfl rfl rfl [0] (by kernel_rfl) (by kernel_rfl) ?_ [0] [] rfl rfl fun a w hI => ?_
  · exact ⟨op_alloc 0 rfl rfl (by kernel_rfl) (by kernel_rfl) rfl rfl rfl zv_format rfl rfl (by simp [NoU]) rfl (fun w => pS_of (cells_int3 w)),
      trivial⟩
  refine seq_text (V1 := [⟨0, 0, none, none, .ptr, 102, 3, true, pv (pS [⟨false, 1, pI 0⟩, ⟨false, 1, pI 0⟩, ⟨false, 1, pI 0⟩]), [(1, pv (pS [⟨false, 1, pI 53⟩, ⟨false, 1, pI (-1074)⟩, ⟨false, 1, pI 1024⟩]))]⟩]) (A1 := []) (G1 := [⟨some 0, none, 1, pS [⟨false, 1, pI 53⟩, ⟨false, 1, pI (-1074)⟩, ⟨false, 1, pI 1024⟩]⟩]) (V2 := [⟨0, 0, none, none, .ptr, 102, 3, true, pv (pS [⟨false, 1, pI 53⟩, ⟨false, 1, pI (-1074)⟩, ⟨false, 1, pI 1024⟩]), []⟩]) (G2 := []) hI rfl rfl rfl [0, 1] (by kernel_rfl) (by kernel_rfl) ?_ [0] [] rfl rfl fun a w hI => ?_
  · exact ⟨op_build (fs := [⟨false, 1, pI 0⟩, ⟨false, 1, pI 0⟩, ⟨false, 1, pI 0⟩]) (ps := [(0, pI 53), (1, pI (-1074)), (2, pI 1024)]) bt_format (places_ok (by kernel_rfl)) (cells_int3) (show HasParts _ _ _ _ _ _ from ⟨⟨rfl, (.const _), _, rfl, fits_int _⟩, ⟨rfl, (.const _), _, rfl, fits_int _⟩, ⟨rfl, (.const _), _, rfl, fits_int _⟩, trivial⟩) rfl (.here 0 rfl),
      op_store 0 rfl rfl rfl rfl 0 rfl (by kernel_rfl) (by kernel_rfl) ty_format (.tmp 0 rfl rfl) (fits_s (fs := [⟨false, 1, pI 53⟩, ⟨false, 1, pI (-1074)⟩, ⟨false, 1, pI 1024⟩]) ⟨fits_int _, fits_int _, fits_int _, trivial⟩ rfl),
      trivial⟩
  refine wp_ret ?_
  exact fin1 hI rfl (.cell 0 rfl rfl rfl rfl ty_format rfl)
set_option maxRecDepth 100000 in
theorem c_Near {x : Rat} {j : Nat} (hx : BdR j x) (hj : j ≤ 100000) : ∀ (M : Nat → Nat → Prop) (w : World) (v0 : Value), Mid M w → Box M (fun w => (pRat x) w v0) w → Calls Tryz.prog 16 #[v0] w (RetB M (pF (nearW x 53 (-1074) 1024)) w) := by
  intro M w0 v0 hM hv0
  refine calls_start (N := 6) Tryz.func16 rfl rfl rfl hM (show EntsA M w0 [v0] [⟨none, none, 0, pRat x⟩] from ⟨⟨rfl, _, rfl, hv0⟩, trivial⟩) fun a hI => ?_
  refine seq_text (V1 := [⟨1, 1, some 0, none, .ptr, 29, 3, true, pv (pS (ratFs x)), []⟩]) (A1 := []) (G1 := [⟨none, none, 0, pRat x⟩, ⟨some 1, none, 2, pF 0⟩]) (V2 := [⟨1, 1, none, none, .ptr, 29, 3, true, pv (pS (ratFs x)), []⟩]) (G2 := [⟨none, none, 2, pF 0⟩]) hI rfl rfl rfl [0, 1] (by kernel_rfl) (by kernel_rfl) ?_ [0] [1] rfl rfl fun a w hI => ?_
  · exact ⟨op_box 0 rfl rfl (by kernel_rfl) (by kernel_rfl) rfl rfl rfl (.imp (.tmp 0 rfl rfl) (rat_S _)) (fits_ratS _) rfl,
      op_assign (.const _) (.here 1 rfl),
      trivial⟩
  refine seq_drawn (V1 := [⟨1, 1, none, none, .ptr, 29, 3, true, pv (pS (ratFs x)), []⟩]) (A1 := []) (G1 := [⟨none, some 3, 2, pF 0⟩, ⟨some 0, none, 3, pS [⟨false, 1, pI 53⟩, ⟨false, 1, pI (-1074)⟩, ⟨false, 1, pI 1024⟩]⟩, ⟨some 1, none, 4, pRat x⟩, ⟨some 2, none, 5, pF (nearW x 53 (-1074) 1024)⟩, ⟨some 3, none, 2, pF (nearW x 53 (-1074) 1024)⟩]) (V2 := [⟨1, 1, none, none, .ptr, 29, 3, true, pv (pS (ratFs x)), []⟩]) (G2 := [⟨none, none, 2, pF (nearW x 53 (-1074) 1024)⟩]) hI rfl rfl rfl [0, 0, 3, 7] (by kernel_rfl) (by kernel_rfl) (by kernel_rfl) (by kernel_rfl) ?_ [0] [3] rfl rfl fun a w hI => ?_
  · exact ⟨op_callB0 (fun _ _ => by kernel_rfl)  (.here 1 rfl) (c_long),
      op_load 0 rfl rfl rfl rfl (by kernel_rfl) ty_Ratio rfl (.at_ 2 _ _ rfl (S_rat _)),
      op_callB2 (fun _ _ => by kernel_rfl) (.tmp 1 rfl rfl) (.tmp 2 rfl rfl) (.here 3 rfl) (c_near (bits := 53) hx hj (by omega) (by omega) (by omega)),
      op_assign (.tmp 3 rfl rfl) (.here 4 rfl),
      trivial⟩
  refine wp_ret ?_
  exact fin1 hI rfl (.tmp 0 rfl)
set_option maxRecDepth 100000 in
theorem c_short  : ∀ (M : Nat → Nat → Prop) (w : World), Mid M w → Calls Tryz.prog 68 #[] w (RetB M (pS [⟨false, 1, pI 24⟩, ⟨false, 1, pI (-149)⟩, ⟨false, 1, pI 128⟩]) w) := by
  intro M w0  hM 
  refine calls_start (N := 2) Tryz.func68 rfl rfl rfl hM (show EntsA M w0 [] [] from trivial) fun a hI => ?_
  refine seq_text (V1 := [⟨0, 0, some 0, none, .ptr, 102, 3, true, pv (pS [⟨false, 1, pI 0⟩, ⟨false, 1, pI 0⟩, ⟨false, 1, pI 0⟩]), []⟩]) (A1 := []) (G1 := []) (V2 := [⟨0, 0, none, none, .ptr, 102, 3, true, pv (pS [⟨false, 1, pI 0⟩, ⟨false, 1, pI 0⟩, ⟨false, 1, pI 0⟩]), []⟩]) (G2 := []) hI rfl rfl rfl [0] (by kernel_rfl) (by kernel_rfl) ?_ [0] [] rfl rfl fun a w hI => ?_
  · exact ⟨op_alloc 0 rfl rfl (by kernel_rfl) (by kernel_rfl) rfl rfl rfl zv_format rfl rfl (by simp [NoU]) rfl (fun w => pS_of (cells_int3 w)),
      trivial⟩
  refine seq_text (V1 := [⟨0, 0, none, none, .ptr, 102, 3, true, pv (pS [⟨false, 1, pI 0⟩, ⟨false, 1, pI 0⟩, ⟨false, 1, pI 0⟩]), [(1, pv (pS [⟨false, 1, pI 24⟩, ⟨false, 1, pI (-149)⟩, ⟨false, 1, pI 128⟩]))]⟩]) (A1 := []) (G1 := [⟨some 0, none, 1, pS [⟨false, 1, pI 24⟩, ⟨false, 1, pI (-149)⟩, ⟨false, 1, pI 128⟩]⟩]) (V2 := [⟨0, 0, none, none, .ptr, 102, 3, true, pv (pS [⟨false, 1, pI 24⟩, ⟨false, 1, pI (-149)⟩, ⟨false, 1, pI 128⟩]), []⟩]) (G2 := []) hI rfl rfl rfl [0, 1] (by kernel_rfl) (by kernel_rfl) ?_ [0] [] rfl rfl fun a w hI => ?_
  · exact ⟨op_build (fs := [⟨false, 1, pI 0⟩, ⟨false, 1, pI 0⟩, ⟨false, 1, pI 0⟩]) (ps := [(0, pI 24), (1, pI (-149)), (2, pI 128)]) bt_format (places_ok (by kernel_rfl)) (cells_int3) (show HasParts _ _ _ _ _ _ from ⟨⟨rfl, (.const _), _, rfl, fits_int _⟩, ⟨rfl, (.const _), _, rfl, fits_int _⟩, ⟨rfl, (.const _), _, rfl, fits_int _⟩, trivial⟩) rfl (.here 0 rfl),
      op_store 0 rfl rfl rfl rfl 0 rfl (by kernel_rfl) (by kernel_rfl) ty_format (.tmp 0 rfl rfl) (fits_s (fs := [⟨false, 1, pI 24⟩, ⟨false, 1, pI (-149)⟩, ⟨false, 1, pI 128⟩]) ⟨fits_int _, fits_int _, fits_int _, trivial⟩ rfl),
      trivial⟩
  refine wp_ret ?_
  exact fin1 hI rfl (.cell 0 rfl rfl rfl rfl ty_format rfl)
set_option maxRecDepth 100000 in
theorem c_Near32 {x : Rat} {j : Nat} (hx : BdR j x) (hj : j ≤ 100000) : ∀ (M : Nat → Nat → Prop) (w : World) (v0 : Value), Mid M w → Box M (fun w => (pRat x) w v0) w → Calls Tryz.prog 19 #[v0] w (RetB M (pF32 (near32W x)) w) := by
  intro M w0 v0 hM hv0
  refine calls_start (N := 7) Tryz.func19 rfl rfl rfl hM (show EntsA M w0 [v0] [⟨none, none, 0, pRat x⟩] from ⟨⟨rfl, _, rfl, hv0⟩, trivial⟩) fun a hI => ?_
  refine seq_text (V1 := [⟨1, 1, some 0, none, .ptr, 29, 3, true, pv (pS (ratFs x)), []⟩]) (A1 := []) (G1 := [⟨none, none, 0, pRat x⟩, ⟨some 1, none, 2, pF32 0⟩]) (V2 := [⟨1, 1, none, none, .ptr, 29, 3, true, pv (pS (ratFs x)), []⟩]) (G2 := [⟨none, none, 2, pF32 0⟩]) hI rfl rfl rfl [0, 1] (by kernel_rfl) (by kernel_rfl) ?_ [0] [1] rfl rfl fun a w hI => ?_
  · exact ⟨op_box 0 rfl rfl (by kernel_rfl) (by kernel_rfl) rfl rfl rfl (.imp (.tmp 0 rfl rfl) (rat_S _)) (fits_ratS _) rfl,
      op_assign (.const _) (.here 1 rfl),
      trivial⟩
  refine seq_drawn (V1 := [⟨1, 1, none, none, .ptr, 29, 3, true, pv (pS (ratFs x)), []⟩]) (A1 := []) (G1 := [⟨none, some 4, 2, pF32 0⟩, ⟨some 0, none, 3, pS [⟨false, 1, pI 24⟩, ⟨false, 1, pI (-149)⟩, ⟨false, 1, pI 128⟩]⟩, ⟨some 1, none, 4, pRat x⟩, ⟨some 2, none, 5, pF (nearW x 24 (-149) 128)⟩, ⟨some 3, none, 6, pF32 (to32 (nearW x 24 (-149) 128))⟩, ⟨some 4, none, 2, pF32 (to32 (nearW x 24 (-149) 128))⟩]) (V2 := [⟨1, 1, none, none, .ptr, 29, 3, true, pv (pS (ratFs x)), []⟩]) (G2 := [⟨none, none, 2, pF32 (to32 (nearW x 24 (-149) 128))⟩]) hI rfl rfl rfl [0, 0, 3, 7, 15] (by kernel_rfl) (by kernel_rfl) (by kernel_rfl) (by kernel_rfl) ?_ [0] [4] rfl rfl fun a w hI => ?_
  · exact ⟨op_callB0 (fun _ _ => by kernel_rfl)  (.here 1 rfl) (c_short),
      op_load 0 rfl rfl rfl rfl (by kernel_rfl) ty_Ratio rfl (.at_ 2 _ _ rfl (S_rat _)),
      op_callB2 (fun _ _ => by kernel_rfl) (.tmp 1 rfl rfl) (.tmp 2 rfl rfl) (.here 3 rfl) (c_near (bits := 24) hx hj (by omega) (by omega) (by omega)),
      op_conv (.tmp 3 rfl rfl) (fun w => conv32 (near32_ok x).1 w) (.here 4 rfl),
      op_assign (.tmp 4 rfl rfl) (.here 5 rfl),
      trivial⟩
  refine wp_ret ?_
  exact fin1 hI rfl (.imp (.tmp 0 rfl) (fun _ _ e => by rw [← (near32_ok x).2]; exact e))
end Wx

namespace Wx
open Go Go.RowKit Go.Proofs
set_option linter.unusedVariables false

set_option maxRecDepth 100000 in
theorem cn_Near {x : Rat} {j : Nat} (hx : BdR j x) (hj : j ≤ 100000) : ∀ (M : Nat → Nat → Prop) (w : World) (v0 : Value), Mid M w → Box M (fun w => (pRef x) w v0) w → Calls Tryz.prog 17 #[v0] w (RetB M (pF (nearW x 53 (-1074) 1024)) w) := by
  intro M w0 v0 hM hv0
  refine calls_start (N := 5) Tryz.func17 rfl rfl rfl hM (show EntsA M w0 [v0] [⟨none, none, 0, pRef x⟩] from ⟨⟨rfl, _, rfl, hv0⟩, trivial⟩) fun a hI => ?_
  refine seq_text (V1 := [⟨1, 1, some 0, none, .ptr, 33, 3, true, pv (pRef x), []⟩]) (A1 := []) (G1 := [⟨none, none, 0, pRef x⟩, ⟨some 1, none, 2, pF 0⟩]) (V2 := [⟨1, 1, none, none, .ptr, 33, 3, true, pv (pRef x), []⟩]) (G2 := [⟨none, none, 2, pF 0⟩]) hI rfl rfl rfl [0, 1] (by kernel_rfl) (by kernel_rfl) ?_ [0] [1] rfl rfl fun a w hI => ?_
  · exact ⟨op_box 0 rfl rfl (by kernel_rfl) (by kernel_rfl) rfl rfl rfl (.tmp 0 rfl rfl) (fits_ref _) rfl,
      op_assign (.const _) (.here 1 rfl),
      trivial⟩
  refine seq_text (V1 := [⟨1, 1, none, none, .ptr, 33, 3, true, pv (pRef x), []⟩]) (A1 := []) (G1 := [⟨none, some 2, 2, pF 0⟩, ⟨some 0, none, 3, pRef x⟩, ⟨some 1, none, 4, pF (nearW x 53 (-1074) 1024)⟩, ⟨some 2, none, 2, pF (nearW x 53 (-1074) 1024)⟩]) (V2 := [⟨1, 1, none, none, .ptr, 33, 3, true, pv (pRef x), []⟩]) (G2 := [⟨none, none, 2, pF (nearW x 53 (-1074) 1024)⟩]) hI rfl rfl rfl [0, 1, 3] (by kernel_rfl) (by kernel_rfl) ?_ [0] [2] rfl rfl fun a w hI => ?_
  · exact ⟨op_load 0 rfl rfl rfl rfl (by kernel_rfl) ty_R rfl (.here 1 rfl),
      op_callB4 (fun _ _ => by kernel_rfl) (.tmp 1 rfl rfl) (.const _) (.const _) (.const _) (.here 2 rfl) (cn_nearest (bits := 53) (beyond := 1024) hx hj (by omega) (by omega) (by omega) (by omega) (fun _ => by kernel_rfl) (fun _ => by kernel_rfl)),
      op_assign (.tmp 2 rfl rfl) (.here 3 rfl),
      trivial⟩
  refine wp_ret ?_
  exact fin1 hI rfl (.tmp 0 rfl)
set_option maxRecDepth 100000 in
theorem cn_Near32 {x : Rat} {j : Nat} (hx : BdR j x) (hj : j ≤ 100000) : ∀ (M : Nat → Nat → Prop) (w : World) (v0 : Value), Mid M w → Box M (fun w => (pRef x) w v0) w → Calls Tryz.prog 20 #[v0] w (RetB M (pF32 (near32W x)) w) := by
  intro M w0 v0 hM hv0
  refine calls_start (N := 6) Tryz.func20 rfl rfl rfl hM (show EntsA M w0 [v0] [⟨none, none, 0, pRef x⟩] from ⟨⟨rfl, _, rfl, hv0⟩, trivial⟩) fun a hI => ?_
  refine seq_text (V1 := [⟨1, 1, some 0, none, .ptr, 33, 3, true, pv (pRef x), []⟩]) (A1 := []) (G1 := [⟨none, none, 0, pRef x⟩, ⟨some 1, none, 2, pF32 0⟩]) (V2 := [⟨1, 1, none, none, .ptr, 33, 3, true, pv (pRef x), []⟩]) (G2 := [⟨none, none, 2, pF32 0⟩]) hI rfl rfl rfl [0, 1] (by kernel_rfl) (by kernel_rfl) ?_ [0] [1] rfl rfl fun a w hI => ?_
  · exact ⟨op_box 0 rfl rfl (by kernel_rfl) (by kernel_rfl) rfl rfl rfl (.tmp 0 rfl rfl) (fits_ref _) rfl,
      op_assign (.const _) (.here 1 rfl),
      trivial⟩
  refine seq_text (V1 := [⟨1, 1, none, none, .ptr, 33, 3, true, pv (pRef x), []⟩]) (A1 := []) (G1 := [⟨none, some 3, 2, pF32 0⟩, ⟨some 0, none, 3, pRef x⟩, ⟨some 1, none, 4, pF (nearW x 24 (-149) 128)⟩, ⟨some 2, none, 5, pF32 (to32 (nearW x 24 (-149) 128))⟩, ⟨some 3, none, 2, pF32 (to32 (nearW x 24 (-149) 128))⟩]) (V2 := [⟨1, 1, none, none, .ptr, 33, 3, true, pv (pRef x), []⟩]) (G2 := [⟨none, none, 2, pF32 (to32 (nearW x 24 (-149) 128))⟩]) hI rfl rfl rfl [0, 1, 3, 7] (by kernel_rfl) (by kernel_rfl) ?_ [0] [3] rfl rfl fun a w hI => ?_
  · exact ⟨op_load 0 rfl rfl rfl rfl (by kernel_rfl) ty_R rfl (.here 1 rfl),
      op_callB4 (fun _ _ => by kernel_rfl) (.tmp 1 rfl rfl) (.const _) (.const _) (.const _) (.here 2 rfl) (cn_nearest (bits := 24) (beyond := 128) hx hj (by omega) (by omega) (by omega) (by omega) (fun _ => by kernel_rfl) (fun _ => by kernel_rfl)),
      op_conv (.tmp 2 rfl rfl) (fun w => conv32 (near32_ok x).1 w) (.here 3 rfl),
      op_assign (.tmp 3 rfl rfl) (.here 4 rfl),
      trivial⟩
  refine wp_ret ?_
  exact fin1 hI rfl (.imp (.tmp 0 rfl) (fun _ _ e => by rw [← (near32_ok x).2]; exact e))
end Wx
