import Derived.Handy
import Derived.KernelRfl
import Derived.Test.YtncpoijmhgihjaaProg
import Derived.Test.YtncpoijmhgihjaaSem
import Derived.Test.YtncpoijmhgihjaaSemOps
import Derived.Test.YtncpoijmhgihjaaSemMem
import Derived.Test.YtncpoijmhgihjaaCSemBuild
namespace Wx
open Go Go.RowKit Go.Proofs

theorem ty_Ratio : Ty Try.prog 27 true 3 := ⟨fun _ => by kernel_rfl, fun _ => by kernel_rfl, by decide⟩
theorem zv_Ratio : ∀ w, (zeroValue 27).run Try.prog w = .ok (.agg #[.bool false, .slice none 0 0, .slice none 0 0]) w := fun _ => by kernel_rfl
theorem bt_Ratio : BuildTy Try.prog 27 #[(0, 1), (1, 1), (2, 1)] [.bool false, .slice none 0 0, .slice none 0 0] := fun _ => by kernel_rfl
theorem fa_Ratio_0 : ∀ b o w, (Instr.fieldAt 27 (.pointer (some ⟨b, o, none⟩)) 0).run Try.prog w = .ok (.pointer (some ⟨b, o + 0, none⟩)) w := fun _ _ _ => by kernel_rfl
theorem fa_Ratio_1 : ∀ b o w, (Instr.fieldAt 27 (.pointer (some ⟨b, o, none⟩)) 1).run Try.prog w = .ok (.pointer (some ⟨b, o + 1, none⟩)) w := fun _ _ _ => by kernel_rfl
theorem fa_Ratio_2 : ∀ b o w, (Instr.fieldAt 27 (.pointer (some ⟨b, o, none⟩)) 2).run Try.prog w = .ok (.pointer (some ⟨b, o + 2, none⟩)) w := fun _ _ _ => by kernel_rfl
theorem ty_Pair : Ty Try.prog 43 true 6 := ⟨fun _ => by kernel_rfl, fun _ => by kernel_rfl, by decide⟩
theorem zv_Pair : ∀ w, (zeroValue 43).run Try.prog w = .ok (.agg #[.bool false, .slice none 0 0, .slice none 0 0, .bool false, .slice none 0 0, .slice none 0 0]) w := fun _ => by kernel_rfl
theorem bt_Pair : BuildTy Try.prog 43 #[(0, 3), (3, 3)] [.bool false, .slice none 0 0, .slice none 0 0, .bool false, .slice none 0 0, .slice none 0 0] := fun _ => by kernel_rfl
theorem fa_Pair_0 : ∀ b o w, (Instr.fieldAt 43 (.pointer (some ⟨b, o, none⟩)) 0).run Try.prog w = .ok (.pointer (some ⟨b, o + 0, none⟩)) w := fun _ _ _ => by kernel_rfl
theorem fa_Pair_1 : ∀ b o w, (Instr.fieldAt 43 (.pointer (some ⟨b, o, none⟩)) 1).run Try.prog w = .ok (.pointer (some ⟨b, o + 3, none⟩)) w := fun _ _ _ => by kernel_rfl
theorem ty_Range : Ty Try.prog 54 true 6 := ⟨fun _ => by kernel_rfl, fun _ => by kernel_rfl, by decide⟩
theorem zv_Range : ∀ w, (zeroValue 54).run Try.prog w = .ok (.agg #[.bool false, .slice none 0 0, .slice none 0 0, .bool false, .slice none 0 0, .slice none 0 0]) w := fun _ => by kernel_rfl
theorem bt_Range : BuildTy Try.prog 54 #[(0, 3), (3, 3)] [.bool false, .slice none 0 0, .slice none 0 0, .bool false, .slice none 0 0, .slice none 0 0] := fun _ => by kernel_rfl
theorem fa_Range_0 : ∀ b o w, (Instr.fieldAt 54 (.pointer (some ⟨b, o, none⟩)) 0).run Try.prog w = .ok (.pointer (some ⟨b, o + 0, none⟩)) w := fun _ _ _ => by kernel_rfl
theorem fa_Range_1 : ∀ b o w, (Instr.fieldAt 54 (.pointer (some ⟨b, o, none⟩)) 1).run Try.prog w = .ok (.pointer (some ⟨b, o + 3, none⟩)) w := fun _ _ _ => by kernel_rfl
theorem ty_Frac : Ty Try.prog 23 true 2 := ⟨fun _ => by kernel_rfl, fun _ => by kernel_rfl, by decide⟩
theorem zv_Frac : ∀ w, (zeroValue 23).run Try.prog w = .ok (.agg #[.int .i64 0, .int .i64 0]) w := fun _ => by kernel_rfl
theorem bt_Frac : BuildTy Try.prog 23 #[(0, 1), (1, 1)] [.int .i64 0, .int .i64 0] := fun _ => by kernel_rfl
theorem fa_Frac_0 : ∀ b o w, (Instr.fieldAt 23 (.pointer (some ⟨b, o, none⟩)) 0).run Try.prog w = .ok (.pointer (some ⟨b, o + 0, none⟩)) w := fun _ _ _ => by kernel_rfl
theorem fa_Frac_1 : ∀ b o w, (Instr.fieldAt 23 (.pointer (some ⟨b, o, none⟩)) 1).run Try.prog w = .ok (.pointer (some ⟨b, o + 1, none⟩)) w := fun _ _ _ => by kernel_rfl
theorem ty_Frac2 : Ty Try.prog 39 true 4 := ⟨fun _ => by kernel_rfl, fun _ => by kernel_rfl, by decide⟩
theorem zv_Frac2 : ∀ w, (zeroValue 39).run Try.prog w = .ok (.agg #[.int .i64 0, .int .i64 0, .int .i64 0, .int .i64 0]) w := fun _ => by kernel_rfl
theorem ty_int : Ty Try.prog 3 false 1 := ⟨fun _ => by kernel_rfl, fun _ => by kernel_rfl, by decide⟩
theorem zv_int : ∀ w, (zeroValue 3).run Try.prog w = .ok (.int .i64 0) w := fun _ => by kernel_rfl
theorem ty_int64 : Ty Try.prog 2 false 1 := ⟨fun _ => by kernel_rfl, fun _ => by kernel_rfl, by decide⟩
theorem zv_int64 : ∀ w, (zeroValue 2).run Try.prog w = .ok (.int .i64 0) w := fun _ => by kernel_rfl
theorem ty_bool : Ty Try.prog 4 false 1 := ⟨fun _ => by kernel_rfl, fun _ => by kernel_rfl, by decide⟩
theorem zv_bool : ∀ w, (zeroValue 4).run Try.prog w = .ok (.bool false) w := fun _ => by kernel_rfl
theorem ty_Errno : Ty Try.prog 33 false 1 := ⟨fun _ => by kernel_rfl, fun _ => by kernel_rfl, by decide⟩
theorem zv_Errno : ∀ w, (zeroValue 33).run Try.prog w = .ok (.int .i64 0) w := fun _ => by kernel_rfl
end Wx
