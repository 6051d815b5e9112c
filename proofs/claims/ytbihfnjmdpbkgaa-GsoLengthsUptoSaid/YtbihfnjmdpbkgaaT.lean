/- The types of the program. -/
import Derived.Test.YtbihfnjmdpbkgaaProg
import Derived.Test.YtbihfnjmdpbkgaaV9
set_option linter.unusedVariables false
namespace Go.Proofs.Ytbihfnjmdpbkgaa.V
open Go.RowKit Mt Nml
theorem tyB : Ty Try.prog 4 false 1 := ⟨by kernel_rfl, by kernel_rfl⟩
theorem tyI : Ty Try.prog 3 false 1 := ⟨by kernel_rfl, by kernel_rfl⟩
theorem tyE : Ty Try.prog 27 false 1 := ⟨by kernel_rfl, by kernel_rfl⟩
theorem tyI64 : Ty Try.prog 2 false 1 := ⟨by kernel_rfl, by kernel_rfl⟩
theorem tyU64 : Ty Try.prog 39 false 1 := ⟨by kernel_rfl, by kernel_rfl⟩
theorem tyU32 : Ty Try.prog 110 false 1 := ⟨by kernel_rfl, by kernel_rfl⟩
theorem tyLs : Ty Try.prog 42 false 1 := ⟨by kernel_rfl, by kernel_rfl⟩
theorem tyZ : Ty Try.prog 44 true 2 := ⟨by kernel_rfl, by kernel_rfl⟩
theorem tyQ : Ty Try.prog 46 true 4 := ⟨by kernel_rfl, by kernel_rfl⟩
theorem tyZs : Ty Try.prog 24 false 1 := ⟨by kernel_rfl, by kernel_rfl⟩
theorem tyZss : Ty Try.prog 22 false 1 := ⟨by kernel_rfl, by kernel_rfl⟩
theorem tyQs : Ty Try.prog 95 false 1 := ⟨by kernel_rfl, by kernel_rfl⟩
theorem tyG : Ty Try.prog 26 true 2 := ⟨by kernel_rfl, by kernel_rfl⟩
theorem fNeg : FieldT Try.prog 44 0 0 false 1 := FieldT.mk' tyB
theorem fMag : FieldT Try.prog 44 1 1 false 1 := FieldT.mk' tyLs
theorem fNum : FieldT Try.prog 46 0 0 true 2 := FieldT.mk' tyZ
theorem fDen : FieldT Try.prog 46 1 2 true 2 := FieldT.mk' tyZ
theorem fD : FieldT Try.prog 26 0 0 false 1 := FieldT.mk' tyZs
theorem fL : FieldT Try.prog 26 1 1 false 1 := FieldT.mk' tyZss
theorem slLs : SlT Try.prog 42 110 1 4 := SlT.mk (.int .u32 0)
theorem slZs : SlT Try.prog 24 44 2 32 := SlT.mk (.agg #[.bool false, .slice none 0 0])
theorem slZss : SlT Try.prog 22 24 1 24 := SlT.mk (.slice none 0 0)
theorem slQs : SlT Try.prog 95 46 4 64 := SlT.mk (.agg #[.bool false, .slice none 0 0, .bool false, .slice none 0 0])
theorem stZ : StructT Try.prog 44 [T.c (.bool false), T.c (.slice none 0 0)] [(0, 1), (1, 1)] := StructT.mk' (zs := [.bool false, .slice none 0 0])
theorem zeZ : Zero Try.prog 44 [T.c (.bool false), T.c (.slice none 0 0)] := zero_of (zs := [.bool false, .slice none 0 0]) (z := .agg #[.bool false, .slice none 0 0]) (by kernel_rfl)
theorem stQ : StructT Try.prog 46 [T.c (.bool false), T.c (.slice none 0 0), T.c (.bool false), T.c (.slice none 0 0)] [(0, 2), (2, 2)] := StructT.mk' (zs := [.bool false, .slice none 0 0, .bool false, .slice none 0 0])
theorem zeQ : Zero Try.prog 46 [T.c (.bool false), T.c (.slice none 0 0), T.c (.bool false), T.c (.slice none 0 0)] := zero_of (zs := [.bool false, .slice none 0 0, .bool false, .slice none 0 0]) (z := .agg #[.bool false, .slice none 0 0, .bool false, .slice none 0 0]) (by kernel_rfl)
theorem stG : StructT Try.prog 26 [T.c (.slice none 0 0), T.c (.slice none 0 0)] [(0, 1), (1, 1)] := StructT.mk' (zs := [.slice none 0 0, .slice none 0 0])
theorem zeG : Zero Try.prog 26 [T.c (.slice none 0 0), T.c (.slice none 0 0)] := zero_of (zs := [.slice none 0 0, .slice none 0 0]) (z := .agg #[.slice none 0 0, .slice none 0 0]) (by kernel_rfl)
theorem zeB : Zero Try.prog 4 [T.c (.bool false)] := zero_of (zs := [.bool false]) (z := .bool false) (by kernel_rfl)
theorem zeI : Zero Try.prog 3 [T.c (.int .i64 0)] := zero_of (zs := [.int .i64 0]) (z := .int .i64 0) (by kernel_rfl)
theorem zeE : Zero Try.prog 27 [T.c (.int .i64 0)] := zero_of (zs := [.int .i64 0]) (z := .int .i64 0) (by kernel_rfl)
theorem zeLs : Zero Try.prog 42 [T.c (.slice none 0 0)] := zero_of (zs := [.slice none 0 0]) (z := .slice none 0 0) (by kernel_rfl)
theorem zeZs : Zero Try.prog 24 [T.c (.slice none 0 0)] := zero_of (zs := [.slice none 0 0]) (z := .slice none 0 0) (by kernel_rfl)
theorem zeZss : Zero Try.prog 22 [T.c (.slice none 0 0)] := zero_of (zs := [.slice none 0 0]) (z := .slice none 0 0) (by kernel_rfl)
theorem zvU32 : (Try.prog.info? 110).bind (·.zero) = some (.int .u32 0) := by kernel_rfl
theorem zvZ : (Try.prog.info? 44).bind (·.zero) = some (.agg #[.bool false, .slice none 0 0]) := by kernel_rfl
theorem zvQ : (Try.prog.info? 46).bind (·.zero) = some (.agg #[.bool false, .slice none 0 0, .bool false, .slice none 0 0]) := by kernel_rfl
theorem zvZs : (Try.prog.info? 24).bind (·.zero) = some (.slice none 0 0) := by kernel_rfl
theorem mixed : Try.prog.follows .mixedOrders = true := by kernel_rfl
theorem zrU (u : World) : (cU.X cU.dflt).rep B0 u (.int .u32 0) := rfl
end Go.Proofs.Ytbihfnjmdpbkgaa.V
