/- FilterZero returns true for every list of numbers and every fraction: a filter that no call made refuses each call. -/
import Derived.Test.YtffnfbhhjjbjbaaGreatRows
import Derived.Test.YtffnfbhhjjbjbaaGreatM04
import Derived.JoinedCond
import Derived.JoinedOf
import Derived.JoinedAt
import Derived.Carry
import Derived.OpenShut
import Derived.ChangeOld
import Derived.Below
import Derived.WalkKit
import Derived.ProofKit
namespace Go.Proofs.YtffnfbhhjjbjbaaGreat
open Go.ChangeShapes Go.WideShapes Go.ChangeAt Go.RowKit
set_option linter.unusedVariables false

namespace FilterZero
theorem own : ownKnob Tryz.prog.godebug = none := by kernel_rfl
theorem laidOut : laidOutB Tryz.prog = true := by kernel_rfl
theorem walk (W : World) (v0 v1 : Value) (x : List Int) (m n : Int) (k l : Nat) (h0 : (V.T.l (V.cZi k) x).rep V.B0 W v0) (h1 : (V.T.st [V.T.Zi m l, V.T.Zi n l]).rep V.B0 W v1) :
    Calls Tryz.prog 4 #[v0, v1] W fun e w' => e = .returned (.bool true) ∧ Below W.heap.size W w' :=
  V.fn_calls_of V.fzero_all (vs := [v0, v1]) ⟨h0, h1, trivial⟩
set_option maxHeartbeats 1600000 in
set_option maxRecDepth 100000 in
theorem lifted (os : Os) (started : os.Started) (H : Type) (enc : TypeId × Value → H) :
    ReturnsInHanded {} Tryz.checked os 4 .any (Rows.filterZeroSpec.pre6 enc Tryz.prog Tryz.f4 Rows.filterZeroRow.domain false) (Rows.filterZeroSpec.post enc Tryz.prog Tryz.f4 false true false false) := by
  refine returnsInHanded_of_change (C := Tryz.checked) own started (by kernel_rfl) Tryz.func4
    (ChangeSpec.witness6 (enc := enc) (C := Tryz.checked) false ⟨#[], #[.slice none 0 0, .agg #[.bool false, .slice none 0 0, .bool false, .slice none 0 0]], []⟩ 8 (by kernel_rfl) (by kernel_rfl) (by kernel_rfl) (by kernel_rfl)) ?_
  intro W base args ds gs before hval0 hW hcnd _
  have hval : ∀ (j : Nat) t v, Tryz.f4.params[j]? = some t → args[j]? = some v → Value.okWide Tryz.prog W .any base t v := hval0
  have hW' := hW
  obtain ⟨p, q, hA0, hV, rfl, hfz, hnd⟩ := hW
  have hA : DataW.TrodAll enc Tryz.prog W 0 (fun _ => true) true Tryz.f4.params.toList args.toList ds p := hA0
  rw [Tryz.params4] at hA hval
  obtain ⟨v0, vs0, d0, ds0, p0, q0, hargs, rfl, rfl, h0, r0⟩ := trodAll_cons hA
  obtain ⟨v1, vs1, d1, ds1, p1, q1, rfl, rfl, rfl, h1, r1⟩ := trodAll_cons r0
  obtain ⟨rfl, rfl, rfl⟩ := trodAll_nil r1
  obtain rfl : args = #[v0, v1] := by cases args; simp_all
  obtain ⟨rfl, rfl⟩ := trodVars_none hV
  obtain ⟨a0, n0, c0, rfl⟩ := okWide_slice Tryz.underlying22 (hval 0 22 v0 rfl rfl)
  have k0 := h0
  have lt0 : ∀ x ∈ p0, x.block < W.heap.size := by obtain ⟨m, hm⟩ := k0; exact DataW.trod_lt m _ _ _ hm
  obtain ⟨cs1, rfl, _⟩ := okWide_struct Tryz.underlying31 (hval 1 31 v1 rfl rfl)
  have k1 := h1
  have lt1 : ∀ x ∈ p1, x.block < W.heap.size := by obtain ⟨m, hm⟩ := k1; exact DataW.trod_lt m _ _ _ hm
  obtain ⟨k0a, x, g0⟩ : ∃ k x, (V.T.l (V.cZi k) x).rep V.B0 W (.slice a0 n0 c0) := by
    obtain ⟨m, hm⟩ := h0
    obtain ⟨v, x, e, hr, hx⟩ := V.read_ints (k := Rows.uptoBulk d0) hm (Nat.le_refl _)
    have e' : Value.slice a0 n0 c0 = v := by simpa [Value.cells] using e
    subst e'
    exact ⟨_, x, hr⟩
  obtain ⟨k1a, m, n, g1⟩ : ∃ k a b, (V.T.st [V.T.Zi a k, V.T.Zi b k]).rep V.B0 W (.agg cs1) := by
    obtain ⟨m, hm⟩ := h1
    obtain ⟨a, b, h⟩ := V.read_Frac (k := Rows.uptoBulk d1) hm (Nat.le_refl _)
    exact ⟨_, a, b, h⟩
  clear hA0 hval0
  refine (walk W _ _ x m n _ _ g0 g1).mono fun e W' ⟨he, bel⟩ => ?_
  subst he
  exact ⟨_, rfl, _, _, _, [], _, [], hW', trodAll_mk1 (shut_bool Tryz.underlying4 _), (trodAll_cons_mk (Below.trod laidOut (by kernel_rfl) (of_decide_eq_true (by kernel_rfl)) k0 bel lt0) (trodAll_cons_mk (Below.trod laidOut (by kernel_rfl) (of_decide_eq_true (by kernel_rfl)) k1 bel lt1) trodAll_mk0)), rfl, bel.frame _, fun h => by cases h⟩

theorem over : Rows.filterZeroRow.holds Tryz.pinned (OpenSpec.ofChange Rows.filterZeroSpec) :=
  OpenClaim.holds_of_wide 4 Tryz.f4 rfl rfl rfl rfl rfl rfl rfl ⟨rfl, rfl, rfl, rfl, rfl⟩ rfl rfl rfl rfl rfl (by kernel_rfl) Tryz.func4 (by kernel_rfl)
    (of_decide_eq_true (by kernel_rfl)) (by unfold Func.isWrapper; first | (rw [if_pos (by decide +kernel)]; kernel_rfl) | (rw [if_neg (by decide +kernel)]; exact ⟨rfl, rfl⟩))
    (fun os started H enc _ => lifted os started H enc)
end FilterZero
/-- The statement. -/
theorem filterZero_holds : Rows.FilterZeroSaid := FilterZero.over
#print axioms filterZero_holds
end Go.Proofs.YtffnfbhhjjbjbaaGreat
