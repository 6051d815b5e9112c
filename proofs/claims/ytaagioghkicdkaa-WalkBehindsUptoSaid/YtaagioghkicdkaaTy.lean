/- The types of the program, as the contracts name them. -/
import Derived.Test.YtaagioghkicdkaaUI
namespace Go.Proofs.Ytaagioghkicdkaa
open Go.RowKit Go.Proofs.YtaagioghkicdkaaW.PrintWords Mt
theorem ty2 : Ty Try.prog 2 false 1 := ⟨by kernel_rfl, by kernel_rfl⟩
theorem ty3 : Ty Try.prog 3 false 1 := ⟨by kernel_rfl, by kernel_rfl⟩
theorem ty4 : Ty Try.prog 4 false 1 := ⟨by kernel_rfl, by kernel_rfl⟩
theorem ty22 : Ty Try.prog 22 false 1 := ⟨by kernel_rfl, by kernel_rfl⟩
theorem ty24 : Ty Try.prog 24 false 1 := ⟨by kernel_rfl, by kernel_rfl⟩
theorem ty25 : Ty Try.prog 25 false 1 := ⟨by kernel_rfl, by kernel_rfl⟩
theorem ty27 : Ty Try.prog 27 true 2 := ⟨by kernel_rfl, by kernel_rfl⟩
theorem ty28 : Ty Try.prog 28 false 1 := ⟨by kernel_rfl, by kernel_rfl⟩
theorem ty29 : Ty Try.prog 29 false 1 := ⟨by kernel_rfl, by kernel_rfl⟩
theorem ty31 : Ty Try.prog 31 true 2 := ⟨by kernel_rfl, by kernel_rfl⟩
theorem ty33 : Ty Try.prog 33 true 4 := ⟨by kernel_rfl, by kernel_rfl⟩
theorem ty35 : Ty Try.prog 35 true 7 := ⟨by kernel_rfl, by kernel_rfl⟩
theorem ty57 : Ty Try.prog 57 false 1 := ⟨by kernel_rfl, by kernel_rfl⟩
theorem ty60 : Ty Try.prog 60 false 1 := ⟨by kernel_rfl, by kernel_rfl⟩
theorem ty61 : Ty Try.prog 61 false 1 := ⟨by kernel_rfl, by kernel_rfl⟩
theorem ty69 : Ty Try.prog 69 true 2 := ⟨by kernel_rfl, by kernel_rfl⟩
theorem ty87 : Ty Try.prog 87 false 1 := ⟨by kernel_rfl, by kernel_rfl⟩
theorem ty89 : Ty Try.prog 89 true 2 := ⟨by kernel_rfl, by kernel_rfl⟩
theorem ty93 : Ty Try.prog 93 false 1 := ⟨by kernel_rfl, by kernel_rfl⟩
theorem sl24 : SlT Try.prog 24 31 2 32 := SlT.mk (.agg #[.bool false, .slice none 0 0])
theorem sl25 : SlT Try.prog 25 24 1 24 := SlT.mk (.slice none 0 0)
theorem sl28 : SlT Try.prog 28 33 4 64 := SlT.mk (.agg #[.bool false, .slice none 0 0, .bool false, .slice none 0 0])
theorem sl29 : SlT Try.prog 29 93 1 4 := SlT.mk (.int .u32 0)
theorem sl87 : SlT Try.prog 87 28 1 24 := SlT.mk (.slice none 0 0)
end Go.Proofs.Ytaagioghkicdkaa
