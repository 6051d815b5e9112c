/- TreeZigzag returns true for every fraction of at most 1048576 values and every place: Nth is the document's. -/
import Derived.Test.YtffnfbhhjjbjbaaGreatRows
import Derived.Test.YtffnfbhhjjbjbaaGreatM06
import Derived.JoinedCond
import Derived.JoinedOf
import Derived.JoinedAt
import Derived.Carry
import Derived.OpenShut
import Derived.ChangeOld
import Derived.Below
import Derived.WalkKit
import Derived.ProofKit
namespace Go.Proofs.YtffnfbhhjjbjbaaGreat
open Go.ChangeShapes Go.WideShapes Go.ChangeAt Go.RowKit
set_option linter.unusedVariables false

namespace TreeZigzag
theorem own : ownKnob Tryz.prog.godebug = none := by kernel_rfl
theorem laidOut : laidOutB Tryz.prog = true := by kernel_rfl
def spec : OpenSpec := Rows.OpenSpec.upto Rows.treeZigzagSpec
theorem walk (W : World) (v0 v1 : Value) (a b z : Int) (hz0 : -9223372036854775808 ≤ z) (hz1 : z < 9223372036854775808) (h0 : (V.T.Qi a b 1048576).rep V.B0 W v0) (h1 : v1 = .int .i64 z) :
    Calls Tryz.prog 6 #[v0, v1] W fun e w' => e = .returned (.bool true) ∧ Below W.heap.size W w' :=
  by
  subst h1
  exact V.fn_calls_of (V.t_zigs (by decide) hz0 hz1) (vs := [v0, .int .i64 z]) ⟨h0, rfl, trivial⟩
set_option maxHeartbeats 1600000 in
set_option maxRecDepth 100000 in
theorem lifted (os : Os) (started : os.Started) (H : Type) (enc : TypeId × Value → H) (F0 : Stop.Interp) :
    ReturnsInHanded {} Tryz.checked os 6 .any (spec.pre6 enc Tryz.prog Tryz.f6 Rows.treeZigzagUptoRow.domain false) ((spec.at F0).post enc Tryz.prog Tryz.f6 false true false false) := by
  refine returnsInHanded_of_cond (C := Tryz.checked) (s := spec) (k := Rows.uptoSmall) rfl own started (by kernel_rfl) Tryz.func6
    (OpenSpec.witness (enc := enc) (C := Tryz.checked) (s := spec) (k := Rows.uptoSmall) rfl false ⟨#[], #[.agg #[.bool false, .slice none 0 0, .bool false, .slice none 0 0], .int .i64 0], []⟩ 8
      (by kernel_rfl) (by kernel_rfl) (by kernel_rfl)
      (x := ([.agg [.agg [.lit (.bool false), .nil], .agg [.lit (.bool false), .nil]], .lit (.int .i64 0)], [], [])) (by kernel_rfl) (by kernel_rfl) (by kernel_rfl)) ?_
  intro W base args ds gs before hval0 hW hcnd hk _
  have hval : ∀ (j : Nat) t v, Tryz.f6.params[j]? = some t → args[j]? = some v → Value.okWide Tryz.prog W .any base t v := hval0
  have hW' := hW
  obtain ⟨p, q, hA0, hV, rfl, hfz, hnd⟩ := hW
  have hA : DataW.TrodAll enc Tryz.prog W 0 (fun _ => true) true Tryz.f6.params.toList args.toList ds p := hA0
  rw [Tryz.params6] at hA hval
  obtain ⟨v0, vs0, d0, ds0, p0, q0, hargs, rfl, rfl, h0, r0⟩ := trodAll_cons hA
  obtain ⟨v1, vs1, d1, ds1, p1, q1, rfl, rfl, rfl, h1, r1⟩ := trodAll_cons r0
  obtain ⟨rfl, rfl, rfl⟩ := trodAll_nil r1
  obtain rfl : args = #[v0, v1] := by cases args; simp_all
  obtain ⟨rfl, rfl⟩ := trodVars_none hV
  have hb : Rows.uptoBulk d0 + (Rows.uptoBulk d1 + (0)) ≤ 1048576 := of_decide_eq_true hk
  obtain ⟨cs0, rfl, _⟩ := okWide_struct Tryz.underlying31 (hval 0 31 v0 rfl rfl)
  have k0 := h0
  have lt0 : ∀ x ∈ p0, x.block < W.heap.size := by obtain ⟨m, hm⟩ := k0; exact DataW.trod_lt m _ _ _ hm
  obtain ⟨a1, rfl, rfl, rfl, w1⟩ := open_int Tryz.underlying3 (hval 1 3 v1 rfl rfl) h1
  obtain ⟨a, b, g0⟩ : ∃ a b, (V.T.Qi a b 1048576).rep V.B0 W (.agg cs0) := by
    obtain ⟨m, hm⟩ := h0
    exact V.read_Frac hm (show Rows.uptoBulk d0 ≤ 1048576 by omega)
  obtain ⟨hz0, hz1⟩ : -9223372036854775808 ≤ a1 ∧ a1 < 9223372036854775808 := by
    have e0 : IntKind.i64.min = -9223372036854775808 := by kernel_rfl
    have e1 : IntKind.i64.max = 9223372036854775807 := by kernel_rfl
    have := w1
    simp [Lit.wf] at this
    omega
  clear hA0 hval0
  refine (walk W _ _ a b a1 hz0 hz1 g0 rfl).mono fun e W' ⟨he, bel⟩ => ?_
  subst he
  exact ⟨_, rfl, _, _, _, [], _, [], hW', trodAll_mk1 (shut_bool Tryz.underlying4 _), (trodAll_cons_mk (Below.trod laidOut (by kernel_rfl) (of_decide_eq_true (by kernel_rfl)) k0 bel lt0) (trodAll_cons_mk (shut_int Tryz.underlying3 w1) trodAll_mk0)), rfl, bel.frame _, fun h => by cases h⟩

theorem over : Rows.treeZigzagUptoRow.holds Tryz.pinned spec :=
  OpenClaim.holds_of_cond 6 Tryz.f6 rfl rfl rfl rfl rfl rfl rfl ⟨rfl, rfl, rfl, rfl, rfl⟩ rfl rfl rfl rfl rfl (by kernel_rfl) Tryz.func6 (by kernel_rfl)
    (of_decide_eq_true (by kernel_rfl)) (by unfold Func.isWrapper; first | (rw [if_pos (by decide +kernel)]; kernel_rfl) | (rw [if_neg (by decide +kernel)]; exact ⟨rfl, rfl⟩))
    (fun os started H enc _ F0 => lifted os started H enc F0)
end TreeZigzag
/-- The statement. -/
theorem treeZigzag_holds : Rows.TreeZigzagUptoSaid := TreeZigzag.over
#print axioms treeZigzag_holds
end Go.Proofs.YtffnfbhhjjbjbaaGreat
