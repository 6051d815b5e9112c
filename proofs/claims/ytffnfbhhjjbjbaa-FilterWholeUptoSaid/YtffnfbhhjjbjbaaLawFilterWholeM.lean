/- FilterWhole returns true for every rows and every list of numbers that together hold at most 1048576 values: without a target the norm of all numbers is the squared length by the data, a whole number. -/
import Derived.Test.YtffnfbhhjjbjbaaRows
import Derived.Test.YtffnfbhhjjbjbaaM05
import Derived.JoinedCond
import Derived.JoinedOf
import Derived.JoinedAt
import Derived.Carry
import Derived.OpenShut
import Derived.ChangeOld
import Derived.Below
import Derived.WalkKit
import Derived.ProofKit
namespace Go.Proofs.Ytffnfbhhjjbjbaa
open Go.ChangeShapes Go.WideShapes Go.ChangeAt Go.RowKit
set_option linter.unusedVariables false

namespace FilterWhole
theorem own : ownKnob Try.prog.godebug = none := by kernel_rfl
theorem laidOut : laidOutB Try.prog = true := by kernel_rfl
def spec : OpenSpec := Rows.OpenSpec.upto Rows.filterWholeSpec
theorem walk (W : World) (v0 v1 : Value) (b : List (List Int)) (x : List Int) (h0 : (V.T.l (V.cL (V.cZi 1048576)) b).rep V.B0 W v0) (h1 : (V.T.l (V.cZi 1048576) x).rep V.B0 W v1) (hb : b.length ≤ 1048576) (hr : ∀ i, i < b.length → (b.getD i []).length ≤ 1048576) (hx : x.length ≤ 1048576) :
    Calls Try.prog 4 #[v0, v1] W fun e w' => e = .returned (.bool true) ∧ Below W.heap.size W w' :=
  V.fn_calls_of (V.fwhole_all (k := 1048576) (by decide) hr hb hx) (vs := [v0, v1]) ⟨h0, h1, trivial⟩
set_option maxHeartbeats 1600000 in
set_option maxRecDepth 100000 in
theorem lifted (os : Os) (started : os.Started) (H : Type) (enc : TypeId × Value → H) (F0 : Stop.Interp) :
    ReturnsInHanded {} Try.checked os 4 .any (spec.pre6 enc Try.prog Try.f4 Rows.filterWholeUptoRow.domain false) ((spec.at F0).post enc Try.prog Try.f4 false true false false) := by
  refine returnsInHanded_of_cond (C := Try.checked) (s := spec) (k := Rows.uptoSmall) rfl own started (by kernel_rfl) Try.func4
    (OpenSpec.witness (enc := enc) (C := Try.checked) (s := spec) (k := Rows.uptoSmall) rfl false ⟨#[], #[.slice none 0 0, .slice none 0 0], []⟩ 8
      (by kernel_rfl) (by kernel_rfl) (by kernel_rfl)
      (x := ([.nil, .nil], [], [])) (by kernel_rfl) (by kernel_rfl) (by kernel_rfl)) ?_
  intro W base args ds gs before hval0 hW hcnd hk _
  have hval : ∀ (j : Nat) t v, Try.f4.params[j]? = some t → args[j]? = some v → Value.okWide Try.prog W .any base t v := hval0
  have hW' := hW
  obtain ⟨p, q, hA0, hV, rfl, hfz, hnd⟩ := hW
  have hA : DataW.TrodAll enc Try.prog W 0 (fun _ => true) true Try.f4.params.toList args.toList ds p := hA0
  rw [Try.params4] at hA hval
  obtain ⟨v0, vs0, d0, ds0, p0, q0, hargs, rfl, rfl, h0, r0⟩ := trodAll_cons hA
  obtain ⟨v1, vs1, d1, ds1, p1, q1, rfl, rfl, rfl, h1, r1⟩ := trodAll_cons r0
  obtain ⟨rfl, rfl, rfl⟩ := trodAll_nil r1
  obtain rfl : args = #[v0, v1] := by cases args; simp_all
  obtain ⟨rfl, rfl⟩ := trodVars_none hV
  have hb : Rows.uptoBulk d0 + (Rows.uptoBulk d1 + (0)) ≤ 1048576 := of_decide_eq_true hk
  obtain ⟨a0, n0, c0, rfl⟩ := okWide_slice Try.underlying23 (hval 0 23 v0 rfl rfl)
  have k0 := h0
  have lt0 : ∀ x ∈ p0, x.block < W.heap.size := by obtain ⟨m, hm⟩ := k0; exact DataW.trod_lt m _ _ _ hm
  obtain ⟨a1, n1, c1, rfl⟩ := okWide_slice Try.underlying22 (hval 1 22 v1 rfl rfl)
  have k1 := h1
  have lt1 : ∀ x ∈ p1, x.block < W.heap.size := by obtain ⟨m, hm⟩ := k1; exact DataW.trod_lt m _ _ _ hm
  obtain ⟨b, g0, gl0, gr0⟩ : ∃ l, (V.T.l (V.cL (V.cZi 1048576)) l).rep V.B0 W (.slice a0 n0 c0) ∧ l.length ≤ 1048576 ∧ ∀ i, i < l.length → (l.getD i []).length ≤ 1048576 := by
    obtain ⟨m, hm⟩ := h0
    obtain ⟨v, l, e, hr, hl, hj⟩ := V.read_rows3 (k := 1048576) hm (show Rows.uptoBulk d0 ≤ 1048576 by omega)
    have e' : Value.slice a0 n0 c0 = v := by simpa [Value.cells] using e
    subst e'
    exact ⟨l, hr, hl, hj⟩
  obtain ⟨x, g1, gl1⟩ : ∃ x, (V.T.l (V.cZi 1048576) x).rep V.B0 W (.slice a1 n1 c1) ∧ x.length ≤ 1048576 := by
    obtain ⟨m, hm⟩ := h1
    obtain ⟨v, x, e, hr, hx⟩ := V.read_ints (k := 1048576) hm (show Rows.uptoBulk d1 ≤ 1048576 by omega)
    have e' : Value.slice a1 n1 c1 = v := by simpa [Value.cells] using e
    subst e'
    exact ⟨x, hr, Nat.le_trans hx (show Rows.uptoBulk d1 ≤ 1048576 by omega)⟩
  clear hA0 hval0
  refine (walk W _ _ b x g0 g1 gl0 gr0 gl1).mono fun e W' ⟨he, bel⟩ => ?_
  subst he
  exact ⟨_, rfl, _, _, _, [], _, [], hW', trodAll_mk1 (shut_bool Try.underlying4 _), (trodAll_cons_mk (Below.trod laidOut (by kernel_rfl) (of_decide_eq_true (by kernel_rfl)) k0 bel lt0) (trodAll_cons_mk (Below.trod laidOut (by kernel_rfl) (of_decide_eq_true (by kernel_rfl)) k1 bel lt1) trodAll_mk0)), rfl, bel.frame _, fun h => by cases h⟩

theorem over : Rows.filterWholeUptoRow.holds Try.pinned spec :=
  OpenClaim.holds_of_cond 4 Try.f4 rfl rfl rfl rfl rfl rfl rfl ⟨rfl, rfl, rfl, rfl, rfl⟩ rfl rfl rfl rfl rfl (by kernel_rfl) Try.func4 (by kernel_rfl)
    (of_decide_eq_true (by kernel_rfl)) (by unfold Func.isWrapper; first | (rw [if_pos (by decide +kernel)]; kernel_rfl) | (rw [if_neg (by decide +kernel)]; exact ⟨rfl, rfl⟩))
    (fun os started H enc _ F0 => lifted os started H enc F0)
end FilterWhole
/-- The statement. -/
theorem filterWhole_holds : Rows.FilterWholeUptoSaid := FilterWhole.over
#print axioms filterWhole_holds
end Go.Proofs.Ytffnfbhhjjbjbaa
