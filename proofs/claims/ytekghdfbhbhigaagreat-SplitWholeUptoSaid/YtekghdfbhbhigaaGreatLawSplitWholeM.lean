/- SplitWhole returns true for every tree of at most 1048576 values and every number of 16 bits: each of the first nodes is done or begins with one job, and with no other. -/
import Derived.Test.YtekghdfbhbhigaaGreatRows
import Derived.Test.YtekghdfbhbhigaaGreatM08
import Derived.JoinedCond
import Derived.JoinedOf
import Derived.JoinedAt
import Derived.Carry
import Derived.OpenShut
import Derived.ChangeOld
import Derived.Below
import Derived.WalkKit
import Derived.ProofKit
namespace Go.Proofs.YtekghdfbhbhigaaGreat
open Go.ChangeShapes Go.WideShapes Go.ChangeAt Go.RowKit
set_option linter.unusedVariables false

namespace SplitWhole
theorem own : ownKnob Tryz.prog.godebug = none := by kernel_rfl
theorem laidOut : laidOutB Tryz.prog = true := by kernel_rfl
def spec : OpenSpec := Rows.OpenSpec.upto Rows.splitWholeSpec
theorem walk (W : World) (v0 v1 : Value) (D : List Int) (L : List (List Int)) (ts : List (Int × Int)) (a b : Int) (m : Nat) (hm : m < 65536) (h0 : (V.T.Tr D L ts a b 1048576).rep V.B0 W v0) (h1 : v1 = .int .u16 (m : Int)) (hL : L.length ≤ 1048576) (hD : D.length ≤ 1048576) (ht : ts.length ≤ 1048576) :
    Calls Tryz.prog 8 #[v0, v1] W fun e w' => e = .returned (.bool true) ∧ Below W.heap.size W w' :=
  by
  subst h1
  exact V.fn_calls_of (V.whole_all hm (k := 1048576) (by decide) hL hD ht) (vs := [v0, .int .u16 (m : Int)]) ⟨h0, rfl, trivial⟩
set_option maxHeartbeats 1600000 in
set_option maxRecDepth 100000 in
theorem lifted (os : Os) (started : os.Started) (H : Type) (enc : TypeId × Value → H) (F0 : Stop.Interp) :
    ReturnsInHanded {} Tryz.checked os 8 .any (spec.pre6 enc Tryz.prog Tryz.f8 Rows.splitWholeUptoRow.domain false) ((spec.at F0).post enc Tryz.prog Tryz.f8 false true false false) := by
  refine returnsInHanded_of_cond (C := Tryz.checked) (s := spec) (k := Rows.uptoSmall) rfl own started (by kernel_rfl) Tryz.func8
    (OpenSpec.witness (enc := enc) (C := Tryz.checked) (s := spec) (k := Rows.uptoSmall) rfl false ⟨#[], #[.agg #[.slice none 0 0, .slice none 0 0, .slice none 0 0, .bool false, .slice none 0 0, .bool false, .slice none 0 0], .int .u16 0], []⟩ 8
      (by kernel_rfl) (by kernel_rfl) (by kernel_rfl)
      (x := ([.agg [.agg [.nil, .nil], .nil, .agg [.agg [.lit (.bool false), .nil], .agg [.lit (.bool false), .nil]]], .lit (.int .u16 0)], [], [])) (by kernel_rfl) (by kernel_rfl) (by kernel_rfl)) ?_
  intro W base args ds gs before hval0 hW hcnd hk _
  have hval : ∀ (j : Nat) t v, Tryz.f8.params[j]? = some t → args[j]? = some v → Value.okWide Tryz.prog W .any base t v := hval0
  have hW' := hW
  obtain ⟨p, q, hA0, hV, rfl, hfz, hnd⟩ := hW
  have hA : DataW.TrodAll enc Tryz.prog W 0 (fun _ => true) true Tryz.f8.params.toList args.toList ds p := hA0
  rw [Tryz.params8] at hA hval
  obtain ⟨v0, vs0, d0, ds0, p0, q0, hargs, rfl, rfl, h0, r0⟩ := trodAll_cons hA
  obtain ⟨v1, vs1, d1, ds1, p1, q1, rfl, rfl, rfl, h1, r1⟩ := trodAll_cons r0
  obtain ⟨rfl, rfl, rfl⟩ := trodAll_nil r1
  obtain rfl : args = #[v0, v1] := by cases args; simp_all
  obtain ⟨rfl, rfl⟩ := trodVars_none hV
  have hb : Rows.uptoBulk d0 + (Rows.uptoBulk d1 + (0)) ≤ 1048576 := of_decide_eq_true hk
  obtain ⟨cs0, rfl, _⟩ := okWide_struct Tryz.underlying39 (hval 0 39 v0 rfl rfl)
  have k0 := h0
  have lt0 : ∀ x ∈ p0, x.block < W.heap.size := by obtain ⟨m, hm⟩ := k0; exact DataW.trod_lt m _ _ _ hm
  obtain ⟨a1, rfl, rfl, rfl, w1⟩ := open_int Tryz.underlying77 (hval 1 77 v1 rfl rfl) h1
  obtain ⟨D, L, ts, a, b, g0, gD0, gL0, gt0⟩ : ∃ D L ts a b, (V.T.Tr D L ts a b 1048576).rep V.B0 W (.agg cs0) ∧ D.length ≤ 1048576 ∧ L.length ≤ 1048576 ∧ ts.length ≤ 1048576 := by
    obtain ⟨m, hm⟩ := h0
    exact V.read_Tree hm (show Rows.uptoBulk d0 ≤ 1048576 by omega)
  obtain ⟨m, hm, rfl⟩ : ∃ m : Nat, m < 65536 ∧ a1 = (m : Int) := by
    have e0 : IntKind.u16.min = 0 := by kernel_rfl
    have e1 : IntKind.u16.max = 65535 := by kernel_rfl
    have := w1
    simp [Lit.wf] at this
    exact ⟨a1.toNat, by omega, by omega⟩
  clear hA0 hval0
  refine (walk W _ _ D L ts a b m hm g0 rfl gL0 gD0 gt0).mono fun e W' ⟨he, bel⟩ => ?_
  subst he
  exact ⟨_, rfl, _, _, _, [], _, [], hW', trodAll_mk1 (shut_bool Tryz.underlying4 _), (trodAll_cons_mk (Below.trod laidOut (by kernel_rfl) (of_decide_eq_true (by kernel_rfl)) k0 bel lt0) (trodAll_cons_mk (shut_int Tryz.underlying77 w1) trodAll_mk0)), rfl, bel.frame _, fun h => by cases h⟩

theorem over : Rows.splitWholeUptoRow.holds Tryz.pinned spec :=
  OpenClaim.holds_of_cond 8 Tryz.f8 rfl rfl rfl rfl rfl rfl rfl ⟨rfl, rfl, rfl, rfl, rfl⟩ rfl rfl rfl rfl rfl (by kernel_rfl) Tryz.func8 (by kernel_rfl)
    (of_decide_eq_true (by kernel_rfl)) (by unfold Func.isWrapper; first | (rw [if_pos (by decide +kernel)]; kernel_rfl) | (rw [if_neg (by decide +kernel)]; exact ⟨rfl, rfl⟩))
    (fun os started H enc _ F0 => lifted os started H enc F0)
end SplitWhole
/-- The statement. -/
theorem splitWhole_holds : Rows.SplitWholeUptoSaid := SplitWhole.over
#print axioms splitWhole_holds
end Go.Proofs.YtekghdfbhbhigaaGreat
