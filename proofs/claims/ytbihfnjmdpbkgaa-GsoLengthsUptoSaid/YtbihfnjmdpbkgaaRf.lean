/- What is read of rows, with the lengths of the rows bounded by what is read. -/
import Derived.Test.YtbihfnjmdpbkgaaRe
set_option linter.unusedVariables false
set_option linter.unusedSimpArgs false
namespace Go.Proofs.Ytbihfnjmdpbkgaa.V
open Go.Deep Go.ChangeShapes Go.WideShapes Go.ChangeAt Go.RowKit Mt Nml
section
variable {H : Type} {enc : TypeId × Value → H} {W : World} {base : Nat} {spare : Nat → Bool} {held : Bool} {fuel : Nat} {cs : List Value} {x : DataW H × List MemPlace}
theorem read_rows3 {k : Nat} (h : DataW.trod enc Try.prog W base spare held fuel 22 cs = some x) (hk : Rows.uptoBulk x.1 ≤ k) : ∃ v l, cs = [v] ∧ (T.l (cL (cZi k)) l).rep B0 W v ∧ l.length ≤ k ∧ ∀ i, i < l.length → (l.getD i []).length ≤ k := by
  rcases open_slice Try.underlying22 h with ⟨rfl, rfl⟩ | ⟨a, len, cap, m, n, D, Pl, rfl, hb, hl, hm, hmm, rfl, hx⟩
  · exact ⟨_, [], rfl, nil_l _ _ _ _ rfl, Nat.zero_le _, fun i hi => absurd hi (Nat.not_lt_zero _)⟩
  · have hml : len ≤ m := by rw [hmm]; split <;> omega
    have hbl : len ≤ Rows.uptoBulkAll ((List.range len).map D) := by have := bulk_all (l := (List.range len).map D); simpa using this
    have hbk : Rows.uptoBulkAll ((List.range len).map D) + Rows.uptoBulkAll ((List.range (m - len)).map fun j => D (len + j)) + 1 ≤ k := hk
    obtain ⟨l, h1, hp, xs, h2, h3, h4⟩ := read_listp (cL (cZi k)) (fun i z => z.length ≤ k) (W := W) (base := base) (a := a) (len := len) (fun i hi => by
      obtain ⟨cs', k1, k2⟩ := hx i (by omega)
      rw [show Try.prog.cellsOf 24 = 1 from by kernel_rfl] at k1
      have hbi : Rows.uptoBulk (D i) ≤ k := by have := bulk_mem (l := (List.range len).map D) (List.mem_map_of_mem (List.mem_range.2 hi)); omega
      obtain ⟨v, z, e, hz, hzl⟩ := read_ints (k := k) k2 hbi
      subst e
      refine ⟨z, [v], v, k1, ?_, hz, Nat.le_trans hzl hbi⟩
      obtain ⟨A, n, q, rfl, _⟩ := hz
      rfl)
    refine ⟨_, l, rfl, ⟨some a, len, cap, rfl, h1, hl, by unfold maxLen at hm; omega, fun hp => ⟨a, rfl, xs, h2, h3⟩⟩, by omega, fun i hi => ?_⟩
    exact hp i (by omega)
end
end Go.Proofs.Ytbihfnjmdpbkgaa.V
