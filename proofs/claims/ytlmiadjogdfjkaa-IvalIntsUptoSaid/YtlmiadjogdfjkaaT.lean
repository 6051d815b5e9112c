/- The types of the program. -/
import Derived.Test.YtlmiadjogdfjkaaProg
import Derived.Test.YtlmiadjogdfjkaaV9
set_option linter.unusedVariables false
namespace Go.Proofs.Ytlmiadjogdfjkaa.V
open Go.RowKit Mt Nml
theorem tyB : Ty Try.prog 4 false 1 := ⟨by kernel_rfl, by kernel_rfl⟩
theorem tyI : Ty Try.prog 3 false 1 := ⟨by kernel_rfl, by kernel_rfl⟩
theorem tyE : Ty Try.prog 34 false 1 := ⟨by kernel_rfl, by kernel_rfl⟩
theorem tyI64 : Ty Try.prog 2 false 1 := ⟨by kernel_rfl, by kernel_rfl⟩
theorem tyU64 : Ty Try.prog 48 false 1 := ⟨by kernel_rfl, by kernel_rfl⟩
theorem tyU32 : Ty Try.prog 77 false 1 := ⟨by kernel_rfl, by kernel_rfl⟩
theorem tyLs : Ty Try.prog 25 false 1 := ⟨by kernel_rfl, by kernel_rfl⟩
theorem tyZ : Ty Try.prog 27 true 2 := ⟨by kernel_rfl, by kernel_rfl⟩
theorem tyQ : Ty Try.prog 29 true 4 := ⟨by kernel_rfl, by kernel_rfl⟩
theorem fNeg : FieldT Try.prog 27 0 0 false 1 := FieldT.mk' tyB
theorem fMag : FieldT Try.prog 27 1 1 false 1 := FieldT.mk' tyLs
theorem fNum : FieldT Try.prog 29 0 0 true 2 := FieldT.mk' tyZ
theorem fDen : FieldT Try.prog 29 1 2 true 2 := FieldT.mk' tyZ
theorem slLs : SlT Try.prog 25 77 1 4 := SlT.mk (.int .u32 0)
theorem stZ : StructT Try.prog 27 [T.c (.bool false), T.c (.slice none 0 0)] [(0, 1), (1, 1)] := StructT.mk' (zs := [.bool false, .slice none 0 0])
theorem zeZ : Zero Try.prog 27 [T.c (.bool false), T.c (.slice none 0 0)] := zero_of (zs := [.bool false, .slice none 0 0]) (z := .agg #[.bool false, .slice none 0 0]) (by kernel_rfl)
theorem stQ : StructT Try.prog 29 [T.c (.bool false), T.c (.slice none 0 0), T.c (.bool false), T.c (.slice none 0 0)] [(0, 2), (2, 2)] := StructT.mk' (zs := [.bool false, .slice none 0 0, .bool false, .slice none 0 0])
theorem zeQ : Zero Try.prog 29 [T.c (.bool false), T.c (.slice none 0 0), T.c (.bool false), T.c (.slice none 0 0)] := zero_of (zs := [.bool false, .slice none 0 0, .bool false, .slice none 0 0]) (z := .agg #[.bool false, .slice none 0 0, .bool false, .slice none 0 0]) (by kernel_rfl)
theorem zeB : Zero Try.prog 4 [T.c (.bool false)] := zero_of (zs := [.bool false]) (z := .bool false) (by kernel_rfl)
theorem zeI : Zero Try.prog 3 [T.c (.int .i64 0)] := zero_of (zs := [.int .i64 0]) (z := .int .i64 0) (by kernel_rfl)
theorem zeE : Zero Try.prog 34 [T.c (.int .i64 0)] := zero_of (zs := [.int .i64 0]) (z := .int .i64 0) (by kernel_rfl)
theorem zeLs : Zero Try.prog 25 [T.c (.slice none 0 0)] := zero_of (zs := [.slice none 0 0]) (z := .slice none 0 0) (by kernel_rfl)
theorem zvU32 : (Try.prog.info? 77).bind (·.zero) = some (.int .u32 0) := by kernel_rfl
theorem zvZ : (Try.prog.info? 27).bind (·.zero) = some (.agg #[.bool false, .slice none 0 0]) := by kernel_rfl
theorem zvQ : (Try.prog.info? 29).bind (·.zero) = some (.agg #[.bool false, .slice none 0 0, .bool false, .slice none 0 0]) := by kernel_rfl
theorem mixed : Try.prog.follows .mixedOrders = true := by kernel_rfl
theorem zrU (u : World) : (cU.X cU.dflt).rep B0 u (.int .u32 0) := rfl
end Go.Proofs.Ytlmiadjogdfjkaa.V
