/- What is read of the arguments of a law: whole numbers and rationals, with a bound on their limbs. -/
import Derived.Test.YtaagioghkicdkaaRows
import Derived.Test.YtaagioghkicdkaaUJ
import Derived.ChangeSame
import Derived.ChangeSlices
import Derived.ProofKit
set_option linter.unusedVariables false
set_option linter.unusedSimpArgs false
namespace Go.Proofs.Ytaagioghkicdkaa
open Go.ChangeShapes Go.WideShapes Go.ChangeAt Go.RowKit Mt

section
variable {H : Type} {enc : TypeId × Value → H} {W : World} {base : Nat} {spare : Nat → Bool} {held : Bool} {fuel : Nat} {cs : List Value} {x : DataW H × List MemPlace}
theorem bulk_lits (k : IntKind) : ∀ l : List Int, Rows.uptoBulkAll (H := H) (lits k l) = l.length
  | [] => rfl
  | a :: l => by
    show Rows.uptoBulk (DataW.lit (H := H) (.int k a)) + Rows.uptoBulkAll (lits k l) = _
    rw [bulk_lits k l, List.length_cons]
    show 1 + l.length = _
    omega
theorem read_Lv (h : DataW.trod enc Try.prog W base spare held fuel 29 cs = some x) : ∃ A n c N, cs = [.slice A n c] ∧ n ≤ Rows.uptoBulk x.1 ∧ RN W A n c N := by
  rcases open_ints Try.underlying29 Try.underlying93 (by kernel_rfl) h with ⟨rfl, rfl⟩ | ⟨a, len, cap, zs, rfl, _, hl, hm, hz, rfl, hcell, hwz⟩
  · exact ⟨none, 0, 0, 0, rfl, Nat.zero_le _, Nat.le_refl _, [], ReadsInt.none, Lim.nil, rfl⟩
  · have hz' : len ≤ zs.length := by rw [hz]; split <;> omega
    have hb : (zs.take len).length = len := by rw [List.length_take]; omega
    have hlim : Lim (zs.take len) := fun z hz0 => by
      have := hwz z (List.mem_of_mem_take hz0)
      have e0 : IntKind.u32.min = 0 := by kernel_rfl
      have e1 : IntKind.u32.max = 4294967295 := by kernel_rfl
      simp [Lit.wf] at this
      constructor <;> omega
    refine ⟨some a, len, cap, (val (zs.take len)).toNat, rfl, ?_, hl, zs.take len, ⟨hb, ?_, fun hp => ⟨a, rfl, fun j hj => ?_⟩⟩, hlim, ?_⟩
    · show len ≤ Rows.uptoBulkAll (lits .u32 (zs.take len)) + _ + 1
      rw [bulk_lits, hb]; omega
    · unfold maxLen at hm; omega
    · rw [hcell j (by omega)]
      congr 2
      rw [List.getD_eq_getElem?_getD, List.getD_eq_getElem?_getD, List.getElem?_take_of_lt hj]
    · have := val_nonneg hlim; omega
set_option maxRecDepth 100000 in
theorem read_Int (h : DataW.trod enc Try.prog W base spare held fuel 31 cs = some x) : ∃ s A n c z, cs = [.bool s, .slice A n c] ∧ GI W s A n c z (Rows.uptoBulk x.1) := by
  obtain ⟨y0, y1, m, rfl, hl, h0, h1⟩ := trod_struct2 Try.underlying31 h
  have hl2 : cs.length = 2 := hl.trans (by kernel_rfl)
  match cs, hl2 with
  | [c0, c1], _ =>
    obtain ⟨s, e0, _⟩ := DataW.trod_bool Try.underlying4 h0
    obtain ⟨A, n, c, N, e1, hn, hr⟩ := read_Lv h1
    have k0 : (([c0, c1] : List Value).drop 0).take (Try.prog.cellsOf 4) = [c0] := by rw [show Try.prog.cellsOf 4 = 1 from by kernel_rfl]; rfl
    have k1 : (([c0, c1] : List Value).drop 1).take (Try.prog.cellsOf 29) = [c1] := by rw [show Try.prog.cellsOf 29 = 1 from by kernel_rfl]; rfl
    have e0' : [c0] = [Value.bool s] := k0.symm.trans e0
    have e1' : [c1] = [Value.slice A n c] := k1.symm.trans e1
    cases e0'
    cases e1'
    refine ⟨s, A, n, c, _, rfl, ?_, N, hr, rfl⟩
    show n ≤ Rows.uptoBulk y0.1 + (Rows.uptoBulk y1.1 + 0) + 1
    omega
set_option maxRecDepth 100000 in
theorem read_Rat (h : DataW.trod enc Try.prog W base spare held fuel 33 cs = some x) : ∃ a b, Qv W (.agg cs.toArray) a b (Rows.uptoBulk x.1) := by
  obtain ⟨y0, y1, m, rfl, hl, h0, h1⟩ := trod_struct2 Try.underlying33 h
  have hl4 : cs.length = 4 := hl.trans (by kernel_rfl)
  match cs, hl4 with
  | [c0, c1, c2, c3], _ =>
    obtain ⟨s, A, n, c, z, e0, g0⟩ := read_Int h0
    obtain ⟨t, D, m, d, y, e1, g1⟩ := read_Int h1
    have kC : Try.prog.cellsOf 31 = 2 := by kernel_rfl
    have k0 : (([c0, c1, c2, c3] : List Value).drop 0).take (Try.prog.cellsOf 31) = [c0, c1] := by rw [kC]; rfl
    have k1 : (([c0, c1, c2, c3] : List Value).drop 2).take (Try.prog.cellsOf 31) = [c2, c3] := by rw [kC]; rfl
    have e0' : [c0, c1] = [Value.bool s, .slice A n c] := k0.symm.trans e0
    have e1' : [c2, c3] = [Value.bool t, .slice D m d] := k1.symm.trans e1
    cases e0'
    cases e1'
    refine ⟨z, y, s, A, n, c, t, D, m, d, rfl, g0.mono ?_, g1.mono ?_⟩
    · show Rows.uptoBulk y0.1 ≤ Rows.uptoBulk y0.1 + (Rows.uptoBulk y1.1 + 0) + 1
      omega
    · show Rows.uptoBulk y1.1 ≤ Rows.uptoBulk y0.1 + (Rows.uptoBulk y1.1 + 0) + 1
      omega
end
end Go.Proofs.Ytaagioghkicdkaa
