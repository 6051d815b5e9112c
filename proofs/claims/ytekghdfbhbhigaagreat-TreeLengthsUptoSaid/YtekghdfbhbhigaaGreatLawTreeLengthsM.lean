/- TreeLengths returns true for every rows and every two lists of numbers that together hold at most 1048576 values: the part of all numbers is the squared distance of two points. -/
import Derived.Test.YtekghdfbhbhigaaGreatRows
import Derived.Test.YtekghdfbhbhigaaGreatM07
import Derived.JoinedCond
import Derived.JoinedOf
import Derived.JoinedAt
import Derived.Carry
import Derived.OpenShut
import Derived.ChangeOld
import Derived.Below
import Derived.WalkKit
import Derived.ProofKit
namespace Go.Proofs.YtekghdfbhbhigaaGreat
open Go.ChangeShapes Go.WideShapes Go.ChangeAt Go.RowKit
set_option linter.unusedVariables false

namespace TreeLengths
theorem own : ownKnob Tryz.prog.godebug = none := by kernel_rfl
theorem laidOut : laidOutB Tryz.prog = true := by kernel_rfl
def spec : OpenSpec := Rows.OpenSpec.upto Rows.treeLengthsSpec
theorem walk (W : World) (v0 v1 v2 : Value) (b : List (List Int)) (x y : List Int) (h0 : (V.T.l (V.cL (V.cZi 1048574)) b).rep V.B0 W v0) (h1 : (V.T.l (V.cZi 1048574) x).rep V.B0 W v1) (h2 : (V.T.l (V.cZi 1048574) y).rep V.B0 W v2) (hb : b.length ≤ 1048574) (hr : ∀ i, i < b.length → (b.getD i []).length ≤ 1048574) (hx : x.length ≤ 1048574) (hy : y.length ≤ 1048574) :
    Calls Tryz.prog 3 #[v0, v1, v2] W fun e w' => e = .returned (.bool true) ∧ Below W.heap.size W w' :=
  V.fn_calls_of (V.t_lens (k := 1048574) (by decide) (fun i hi => Nat.le_trans (hr i hi) (by decide)) (Nat.le_trans hb (by decide)) (Nat.le_trans hx (by decide)) (Nat.le_trans hy (by decide))) (vs := [v0, v1, v2]) ⟨h0, h1, h2, trivial⟩
set_option maxHeartbeats 1600000 in
set_option maxRecDepth 100000 in
theorem lifted (os : Os) (started : os.Started) (H : Type) (enc : TypeId × Value → H) (F0 : Stop.Interp) :
    ReturnsInHanded {} Tryz.checked os 3 .any (spec.pre6 enc Tryz.prog Tryz.f3 Rows.treeLengthsUptoRow.domain false) ((spec.at F0).post enc Tryz.prog Tryz.f3 false true false false) := by
  refine returnsInHanded_of_cond (C := Tryz.checked) (s := spec) (k := Rows.uptoSmall) rfl own started (by kernel_rfl) Tryz.func3
    (OpenSpec.witness (enc := enc) (C := Tryz.checked) (s := spec) (k := Rows.uptoSmall) rfl false ⟨#[], #[.slice none 0 0, .slice none 0 0, .slice none 0 0], []⟩ 8
      (by kernel_rfl) (by kernel_rfl) (by kernel_rfl)
      (x := ([.nil, .nil, .nil], [], [])) (by kernel_rfl) (by kernel_rfl) (by kernel_rfl)) ?_
  intro W base args ds gs before hval0 hW hcnd hk _
  have hval : ∀ (j : Nat) t v, Tryz.f3.params[j]? = some t → args[j]? = some v → Value.okWide Tryz.prog W .any base t v := hval0
  have hW' := hW
  obtain ⟨p, q, hA0, hV, rfl, hfz, hnd⟩ := hW
  have hA : DataW.TrodAll enc Tryz.prog W 0 (fun _ => true) true Tryz.f3.params.toList args.toList ds p := hA0
  rw [Tryz.params3] at hA hval
  obtain ⟨v0, vs0, d0, ds0, p0, q0, hargs, rfl, rfl, h0, r0⟩ := trodAll_cons hA
  obtain ⟨v1, vs1, d1, ds1, p1, q1, rfl, rfl, rfl, h1, r1⟩ := trodAll_cons r0
  obtain ⟨v2, vs2, d2, ds2, p2, q2, rfl, rfl, rfl, h2, r2⟩ := trodAll_cons r1
  obtain ⟨rfl, rfl, rfl⟩ := trodAll_nil r2
  obtain rfl : args = #[v0, v1, v2] := by cases args; simp_all
  obtain ⟨rfl, rfl⟩ := trodVars_none hV
  have hb : Rows.uptoBulk d0 + (Rows.uptoBulk d1 + (Rows.uptoBulk d2 + (0))) ≤ 1048576 := of_decide_eq_true hk
  obtain ⟨a0, n0, c0, rfl⟩ := okWide_slice Tryz.underlying22 (hval 0 22 v0 rfl rfl)
  have k0 := h0
  have lt0 : ∀ x ∈ p0, x.block < W.heap.size := by obtain ⟨m, hm⟩ := k0; exact DataW.trod_lt m _ _ _ hm
  obtain ⟨a1, n1, c1, rfl⟩ := okWide_slice Tryz.underlying23 (hval 1 23 v1 rfl rfl)
  have k1 := h1
  have lt1 : ∀ x ∈ p1, x.block < W.heap.size := by obtain ⟨m, hm⟩ := k1; exact DataW.trod_lt m _ _ _ hm
  obtain ⟨a2, n2, c2, rfl⟩ := okWide_slice Tryz.underlying23 (hval 2 23 v2 rfl rfl)
  have k2 := h2
  have lt2 : ∀ x ∈ p2, x.block < W.heap.size := by obtain ⟨m, hm⟩ := k2; exact DataW.trod_lt m _ _ _ hm
  have bp0 := V.bulk_pos d0
  have bp1 := V.bulk_pos d1
  have bp2 := V.bulk_pos d2
  obtain ⟨b, g0, gl0, gr0⟩ : ∃ l, (V.T.l (V.cL (V.cZi 1048574)) l).rep V.B0 W (.slice a0 n0 c0) ∧ l.length ≤ 1048574 ∧ ∀ i, i < l.length → (l.getD i []).length ≤ 1048574 := by
    obtain ⟨m, hm⟩ := h0
    obtain ⟨v, l, e, hr, hl, hj⟩ := V.read_rows3 (k := 1048574) hm (show Rows.uptoBulk d0 ≤ 1048574 by omega)
    have e' : Value.slice a0 n0 c0 = v := by simpa [Value.cells] using e
    subst e'
    exact ⟨l, hr, hl, hj⟩
  obtain ⟨x, g1, gl1⟩ : ∃ x, (V.T.l (V.cZi 1048574) x).rep V.B0 W (.slice a1 n1 c1) ∧ x.length ≤ 1048574 := by
    obtain ⟨m, hm⟩ := h1
    obtain ⟨v, x, e, hr, hx⟩ := V.read_ints (k := 1048574) hm (show Rows.uptoBulk d1 ≤ 1048574 by omega)
    have e' : Value.slice a1 n1 c1 = v := by simpa [Value.cells] using e
    subst e'
    exact ⟨x, hr, Nat.le_trans hx (show Rows.uptoBulk d1 ≤ 1048574 by omega)⟩
  obtain ⟨y, g2, gl2⟩ : ∃ x, (V.T.l (V.cZi 1048574) x).rep V.B0 W (.slice a2 n2 c2) ∧ x.length ≤ 1048574 := by
    obtain ⟨m, hm⟩ := h2
    obtain ⟨v, x, e, hr, hx⟩ := V.read_ints (k := 1048574) hm (show Rows.uptoBulk d2 ≤ 1048574 by omega)
    have e' : Value.slice a2 n2 c2 = v := by simpa [Value.cells] using e
    subst e'
    exact ⟨x, hr, Nat.le_trans hx (show Rows.uptoBulk d2 ≤ 1048574 by omega)⟩
  clear hA0 hval0
  refine (walk W _ _ _ b x y g0 g1 g2 gl0 gr0 gl1 gl2).mono fun e W' ⟨he, bel⟩ => ?_
  subst he
  exact ⟨_, rfl, _, _, _, [], _, [], hW', trodAll_mk1 (shut_bool Tryz.underlying4 _), (trodAll_cons_mk (Below.trod laidOut (by kernel_rfl) (of_decide_eq_true (by kernel_rfl)) k0 bel lt0) (trodAll_cons_mk (Below.trod laidOut (by kernel_rfl) (of_decide_eq_true (by kernel_rfl)) k1 bel lt1) (trodAll_cons_mk (Below.trod laidOut (by kernel_rfl) (of_decide_eq_true (by kernel_rfl)) k2 bel lt2) trodAll_mk0))), rfl, bel.frame _, fun h => by cases h⟩

theorem over : Rows.treeLengthsUptoRow.holds Tryz.pinned spec :=
  OpenClaim.holds_of_cond 3 Tryz.f3 rfl rfl rfl rfl rfl rfl rfl ⟨rfl, rfl, rfl, rfl, rfl⟩ rfl rfl rfl rfl rfl (by kernel_rfl) Tryz.func3 (by kernel_rfl)
    (of_decide_eq_true (by kernel_rfl)) (by unfold Func.isWrapper; first | (rw [if_pos (by decide +kernel)]; kernel_rfl) | (rw [if_neg (by decide +kernel)]; exact ⟨rfl, rfl⟩))
    (fun os started H enc _ F0 => lifted os started H enc F0)
end TreeLengths
/-- The statement. -/
theorem treeLengths_holds : Rows.TreeLengthsUptoSaid := TreeLengths.over
#print axioms treeLengths_holds
end Go.Proofs.YtekghdfbhbhigaaGreat
