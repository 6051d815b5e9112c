/- GsoNorms returns true for every data of rows and every list of numbers that together hold at most 1048576 values: Norm is the document's, and what is of no right shape is refused. -/
import Derived.Test.YtmfgnbchehnpjaaRe
import Derived.JoinedCond
import Derived.JoinedOf
import Derived.JoinedAt
import Derived.Carry
import Derived.OpenShut
import Derived.ChangeOld
import Derived.Below
namespace Go.Proofs.Ytmfgnbchehnpjaa
open Go.ChangeShapes Go.WideShapes Go.ChangeAt Go.RowKit
set_option linter.unusedVariables false

namespace GsoNorms
theorem own : ownKnob Try.prog.godebug = none := by kernel_rfl
theorem laidOut : laidOutB Try.prog = true := by kernel_rfl
def spec : OpenSpec := Rows.OpenSpec.upto Rows.gsoNormsSpec
theorem walk (W : World) (v0 v1 : Value) (x D : List Int) (L : List (List Int)) (h0 : (V.T.G D L 1048576).rep V.B0 W v0) (h1 : (V.T.l (V.cZi 1048576) x).rep V.B0 W v1) (hD : D.length ≤ 1048576) (hL : L.length ≤ 1048576) (hx : x.length ≤ 1048576) (hn : V.GoodP D L → L.length ≤ 2048) :
    Calls Try.prog 7 #[v0, v1] W fun e w' => e = .returned (.bool true) ∧ Below W.heap.size W w' :=
  V.fn_calls_of (V.norms_all (D := D) (L := L) (x := x) (k := 1048576) (Nat.le_refl _) hL hD hx hn) (vs := [v0, v1]) ⟨h0, h1, trivial⟩
set_option maxHeartbeats 1600000 in
set_option maxRecDepth 100000 in
theorem lifted (os : Os) (started : os.Started) (H : Type) (enc : TypeId × Value → H) (F0 : Stop.Interp) :
    ReturnsInHanded {} Try.checked os 7 .any (spec.pre6 enc Try.prog Try.f7 Rows.gsoNormsUptoRow.domain false) ((spec.at F0).post enc Try.prog Try.f7 false true false false) := by
  refine returnsInHanded_of_cond (C := Try.checked) (s := spec) (k := Rows.uptoSmall) rfl own started (by kernel_rfl) Try.func7
    (OpenSpec.witness (enc := enc) (C := Try.checked) (s := spec) (k := Rows.uptoSmall) rfl false ⟨#[], #[.agg #[.slice none 0 0, .slice none 0 0], .slice none 0 0], []⟩ 8
      (by kernel_rfl) (by kernel_rfl) (by kernel_rfl)
      (x := ([.agg [.nil, .nil], .nil], [], [])) (by kernel_rfl) (by kernel_rfl) (by kernel_rfl)) ?_
  intro W base args ds gs before hval0 hW hcnd hk _
  have hval : ∀ (j : Nat) t v, Try.f7.params[j]? = some t → args[j]? = some v → Value.okWide Try.prog W .any base t v := hval0
  have hW' := hW
  obtain ⟨p, q, hA0, hV, rfl, hfz, hnd⟩ := hW
  have hA : DataW.TrodAll enc Try.prog W 0 (fun _ => true) true Try.f7.params.toList args.toList ds p := hA0
  rw [Try.params7] at hA hval
  obtain ⟨v0, vs0, d0, ds0, p0, q0, hargs, rfl, rfl, h0, r0⟩ := trodAll_cons hA
  obtain ⟨v1, vs1, d1, ds1, p1, q1, rfl, rfl, rfl, h1, r1⟩ := trodAll_cons r0
  obtain ⟨rfl, rfl, rfl⟩ := trodAll_nil r1
  obtain rfl : args = #[v0, v1] := by cases args; simp_all
  obtain ⟨rfl, rfl⟩ := trodVars_none hV
  have hb : Rows.uptoBulk d0 + (Rows.uptoBulk d1 + 0) ≤ 1048576 := of_decide_eq_true hk
  obtain ⟨cs0, rfl, _⟩ := okWide_struct Try.underlying26 (hval 0 26 v0 rfl rfl)
  obtain ⟨a1, n1, c1, rfl⟩ := okWide_slice Try.underlying24 (hval 1 24 v1 rfl rfl)
  have k0 := h0
  have k1 := h1
  have lt0 : ∀ x ∈ p0, x.block < W.heap.size := by obtain ⟨m, hm⟩ := k0; exact DataW.trod_lt m _ _ _ hm
  have lt1 : ∀ x ∈ p1, x.block < W.heap.size := by obtain ⟨m, hm⟩ := k1; exact DataW.trod_lt m _ _ _ hm
  obtain ⟨D, L, g0, gD, gL, gn⟩ : ∃ D L, (V.T.G D L 1048576).rep V.B0 W (.agg cs0) ∧ D.length ≤ 1048576 ∧ L.length ≤ 1048576 ∧ (V.GoodP D L → L.length ≤ 2048) := by
    obtain ⟨m, hm⟩ := h0
    exact V.read_Gso2 hm (show Rows.uptoBulk d0 ≤ 1048576 by omega) (Nat.le_refl _)
  obtain ⟨x, g1, gx⟩ : ∃ x, (V.T.l (V.cZi 1048576) x).rep V.B0 W (.slice a1 n1 c1) ∧ x.length ≤ 1048576 := by
    obtain ⟨m, hm⟩ := h1
    obtain ⟨v, x, e, hr, hx⟩ := V.read_ints (k := 1048576) hm (show Rows.uptoBulk d1 ≤ 1048576 by omega)
    have e' : Value.slice a1 n1 c1 = v := by simpa [Value.cells] using e
    subst e'
    exact ⟨x, hr, Nat.le_trans hx (show Rows.uptoBulk d1 ≤ 1048576 by omega)⟩
  clear hA0 hval0
  refine (walk W _ _ x D L g0 g1 gD gL gx gn).mono fun e W' ⟨he, bel⟩ => ?_
  subst he
  exact ⟨_, rfl, _, _, _, [], _, [], hW', trodAll_mk1 (shut_bool Try.underlying4 _), (trodAll_cons_mk (Below.trod laidOut (by kernel_rfl) (of_decide_eq_true (by kernel_rfl)) k0 bel lt0) (trodAll_cons_mk (Below.trod laidOut (by kernel_rfl) (of_decide_eq_true (by kernel_rfl)) k1 bel lt1) trodAll_mk0)), rfl, bel.frame _, fun h => by cases h⟩

theorem over : Rows.gsoNormsUptoRow.holds Try.pinned spec :=
  OpenClaim.holds_of_cond 7 Try.f7 rfl rfl rfl rfl rfl rfl rfl ⟨rfl, rfl, rfl, rfl, rfl⟩ rfl rfl rfl rfl rfl (by kernel_rfl) Try.func7 (by kernel_rfl)
    (of_decide_eq_true (by kernel_rfl)) (by unfold Func.isWrapper; first | (rw [if_pos (by decide +kernel)]; kernel_rfl) | (rw [if_neg (by decide +kernel)]; exact ⟨rfl, rfl⟩))
    (fun os started H enc _ F0 => lifted os started H enc F0)
end GsoNorms
/-- The statement. -/
theorem gsoNorms_holds : Rows.GsoNormsUptoSaid := GsoNorms.over
#print axioms gsoNorms_holds
end Go.Proofs.Ytmfgnbchehnpjaa
