/- What is read of the arguments of a law: floats, intervals, fractions. -/
import Derived.Test.YtlmiadjogdfjkaaRd
import Derived.Test.YtlmiadjogdfjkaaKL
import Derived.ChangeArms
set_option linter.unusedVariables false
set_option linter.unusedSimpArgs false
namespace Go.Proofs.Ytlmiadjogdfjkaa.V
open Go.Deep Go.ChangeShapes Go.WideShapes Go.ChangeAt Go.RowKit Mt Nml
section
variable {P : Program} {H : Type} {enc : TypeId × Value → H} {W : World} {base : Nat} {spare : Nat → Bool} {held : Bool} {fuel : Nat} {cs : List Value} {x : DataW H × List MemPlace}
theorem trod_float {t : TypeId} {k : FloatKind} (ht : P.underlying t = some (.float k)) (h : DataW.trod enc P W base spare held fuel t cs = some x) : ∃ b, cs = [.float k b] ∧ (Lit.float k b).wf = true := by
  cases fuel with
  | zero => simp [DataW.trod] at h
  | succ n =>
    unfold DataW.trod at h
    rw [ht] at h
    split at h <;> simp_all
end
section
variable {H : Type} {enc : TypeId × Value → H} {W : World} {base : Nat} {spare : Nat → Bool} {held : Bool} {fuel : Nat} {cs : List Value} {x : DataW H × List MemPlace}
theorem rep_F (b : Nat) (hw : (Lit.float .f64 b).wf = true) : (T.F (fo b)).rep B0 W (.float .f64 b) := ⟨b, ⟨by simpa [Lit.wf] using hw, rfl⟩, rfl⟩
set_option maxRecDepth 100000 in
theorem read_Ival (h : DataW.trod enc Try.prog W base spare held fuel 24 cs = some x) : ∃ a b, (T.st [T.F a, T.F b]).rep B0 W (.agg cs.toArray) := by
  obtain ⟨y0, y1, m, rfl, hl, h0, h1⟩ := trod_struct2 Try.underlying24 h
  have hl2 : cs.length = 2 := hl.trans (by kernel_rfl)
  match cs, hl2 with
  | [c0, c1], _ =>
    obtain ⟨b0, e0, w0⟩ := trod_float Try.underlying22 h0
    obtain ⟨b1, e1, w1⟩ := trod_float Try.underlying22 h1
    have k0 : (([c0, c1] : List Value).drop 0).take (Try.prog.cellsOf 22) = [c0] := by rw [show Try.prog.cellsOf 22 = 1 from by kernel_rfl]; rfl
    have k1 : (([c0, c1] : List Value).drop 1).take (Try.prog.cellsOf 22) = [c1] := by rw [show Try.prog.cellsOf 22 = 1 from by kernel_rfl]; rfl
    cases k0.symm.trans e0
    cases k1.symm.trans e1
    exact ⟨fo b0, fo b1, [.float .f64 b0, .float .f64 b1], rfl, .float .f64 b0, [.float .f64 b1], by show (1 : Nat) ≠ 0; omega, rep_F b0 w0, rfl, .float .f64 b1, [], by show (1 : Nat) ≠ 0; omega, rep_F b1 w1, rfl, rfl⟩
set_option maxRecDepth 100000 in
theorem read_Rat {k : Nat} (h : DataW.trod enc Try.prog W base spare held fuel 29 cs = some x) (hk : Rows.uptoBulk x.1 ≤ k) : ∃ a b, (T.Qi a b k).rep B0 W (.agg cs.toArray) := by
  obtain ⟨y0, y1, m, rfl, hl, h0, h1⟩ := trod_struct2 Try.underlying29 h
  have hl2 : cs.length = 4 := hl.trans (by kernel_rfl)
  have hk' : Rows.uptoBulk y0.1 + (Rows.uptoBulk y1.1 + 0) + 1 ≤ k := hk
  match cs, hl2 with
  | [c0, c1, c2, c3], _ =>
    have k0 : (([c0, c1, c2, c3] : List Value).drop 0).take (Try.prog.cellsOf 27) = [c0, c1] := by rw [show Try.prog.cellsOf 27 = 2 from by kernel_rfl]; rfl
    have k1 : (([c0, c1, c2, c3] : List Value).drop 2).take (Try.prog.cellsOf 27) = [c2, c3] := by rw [show Try.prog.cellsOf 27 = 2 from by kernel_rfl]; rfl
    rw [k0] at h0
    rw [k1] at h1
    obtain ⟨a, ha⟩ := read_Zi (k := k) h0 (by omega)
    obtain ⟨b, hb⟩ := read_Zi (k := k) h1 (by omega)
    exact ⟨a, b, [c0, c1, c2, c3], rfl, .agg #[c0, c1], [c2, c3], by show (2 : Nat) ≠ 0; omega, ha, rfl, .agg #[c2, c3], [], by show (2 : Nat) ≠ 0; omega, hb, rfl, rfl⟩
end
end Go.Proofs.Ytlmiadjogdfjkaa.V
