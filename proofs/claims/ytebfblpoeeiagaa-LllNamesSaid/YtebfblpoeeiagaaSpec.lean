/- What the functions of package zint answer, as one plain Lean function each, and that they answer so. -/
import Derived.Test.YtebfblpoeeiagaaZintX
set_option linter.unusedVariables false
set_option linter.unusedSimpArgs false
namespace Go.Proofs.Ytebfblpoeeiagaa
open Go.RowKit Go.Proofs.YtebfblpoeeiagaaW.PrintWords Mt

/-- Limbs that are limbs, and not too many. -/
def okL (l : List Int) : Bool := l.all (fun x => decide (0 ≤ x) && decide (x < 4294967296)) && decide (l.length ≤ 4398046511104)
/-- The number of a sign and limbs. -/
def zv (s : Bool) (l : List Int) : Int := if s then -(val l) else val l
def digF : Nat → Nat → List Int
  | 0, _ => []
  | k + 1, n => if n = 0 then [] else ((n % 4294967296 : Nat) : Int) :: digF k (n / 4294967296)
/-- A number's own limbs. -/
def dg (n : Nat) : List Int := digF (Nat.log2 n + 1) n
/-- A number in its one form. -/
def cz (z : Int) : Bool × List Int := (decide (z < 0), dg z.natAbs)

theorem digF_eq : ∀ (k n : Nat), n < 2 ^ k → digF k n = dig n
  | 0, n, h => by
    have : n = 0 := by simpa using h
    subst this; rw [dig_zero]; rfl
  | k + 1, n, h => by
    unfold digF
    by_cases h0 : n = 0
    · subst h0; rw [dig_zero]; rfl
    · rw [if_neg h0, dig_pos h0, digF_eq k (n / 4294967296) (by
        have : 2 ^ (k + 1) = 2 * 2 ^ k := by rw [Nat.pow_succ]; omega
        omega)]
theorem dg_eq (n : Nat) : dg n = dig n := digF_eq _ _ Nat.lt_log2_self
theorem okL_lim {l : List Int} (h : okL l = true) : Lim l ∧ l.length ≤ 4398046511104 := by
  unfold okL at h
  rw [Bool.and_eq_true, List.all_eq_true] at h
  refine ⟨fun x hx => ?_, of_decide_eq_true h.2⟩
  have := h.1 x hx
  rw [Bool.and_eq_true] at this
  exact ⟨of_decide_eq_true this.1, of_decide_eq_true this.2⟩
theorem lim_okL {l : List Int} (h : Lim l) (hn : l.length ≤ 4398046511104) : okL l = true := by
  unfold okL
  rw [Bool.and_eq_true, List.all_eq_true]
  refine ⟨fun x hx => ?_, decide_eq_true hn⟩
  rw [Bool.and_eq_true]
  exact ⟨decide_eq_true (h x hx).1, decide_eq_true (h x hx).2⟩
theorem okL_gi {w : World} {A : Option Addr} {c : Nat} {l : List Int} (s : Bool) (hr : Kd.C (Kd.int .u32) w A l.length l) (hc : l.length ≤ c) (h : okL l = true) : GI w s A l.length c (zv s l) l.length := by
  obtain ⟨h1, h2⟩ := okL_lim h
  have hp := val_nonneg h1
  refine ⟨Nat.le_refl _, (val l).toNat, ⟨hc, l, Kd.reads_of_C (d := (0 : Int)) hr, h1, by omega⟩, ?_⟩
  unfold zv intv
  cases s <;> simp <;> omega
theorem ret_R {w w' : World} {e : Ending} {z : Int} {r1 : Bool} {r2 : List Int} (h : RetI w w' e z) (hz : some (cz z) = some (r1, r2)) :
    ∃ v1_ : Value, e = .returned (.agg #[.bool r1, v1_]) ∧ Kd.R (Kd.int .u32) 44 w' w.heap.size (fun _ => True) v1_ r2 ∧ Below w.heap.size w w' := by
  obtain ⟨s, A, n, c, rfl, hM, hB⟩ := h
  obtain ⟨rfl, hR⟩ := ni_R hM
  simp only [cz, Option.some.injEq, Prod.mk.injEq] at hz
  obtain ⟨rfl, rfl⟩ := hz
  rw [dg_eq]
  exact ⟨_, rfl, hR, hB⟩
theorem ok_R {w : World} {b : Nat} {ok : Nat → Prop} {v : Value} {l : List Int} (h : Kd.R (Kd.int .u32) 44 w b (fun _ => True) v l) (hk : ∀ k, v.ownBlock = some k → ok k) : Kd.R (Kd.int .u32) 44 w b ok v l := by
  obtain ⟨_, inner, h2, h3⟩ := h
  exact ⟨hk, inner, h2, h3⟩
theorem floor_R {w w' : World} {e : Ending} {x y : Int} {r1 r3 : Bool} {r2 r4 : List Int} {r5 : Int}
    (h : ∃ s3 A3 n3 c3 s4 A4 n4 c4, e = .returned (.tuple #[.agg #[.bool s3, .slice A3 n3 c3], .agg #[.bool s4, .slice A4 n4 c4], .int .i64 0]) ∧ NI w' w.heap.size x [.bool s3, .slice A3 n3 c3] ∧ NI w' w.heap.size y [.bool s4, .slice A4 n4 c4] ∧ Below w.heap.size w w' ∧ Apt (.slice A3 n3 c3) (.slice A4 n4 c4))
    (hz : some ((cz x).1, (cz x).2, (cz y).1, (cz y).2, (0 : Int)) = some (r1, r2, r3, r4, r5)) :
    ∃ v1_ v3_ : Value, e = .returned (.tuple #[.agg #[.bool r1, v1_], .agg #[.bool r3, v3_], .int .i64 r5]) ∧ Kd.R (Kd.int .u32) 44 w' w.heap.size (fun k_ => some k_ ≠ (v3_ : Value).ownBlock) v1_ r2 ∧ Kd.R (Kd.int .u32) 44 w' w.heap.size (fun k_ => some k_ ≠ (v1_ : Value).ownBlock) v3_ r4 ∧ Below w.heap.size w w' := by
  obtain ⟨s3, A3, n3, c3, s4, A4, n4, c4, rfl, h1, h2, hB, hap⟩ := h
  obtain ⟨rfl, hR⟩ := ni_R h1
  obtain ⟨rfl, hS⟩ := ni_R h2
  simp only [cz, Option.some.injEq, Prod.mk.injEq] at hz
  obtain ⟨rfl, rfl, rfl, rfl, rfl⟩ := hz
  rw [dg_eq, dg_eq]
  exact ⟨_, _, rfl, ok_R hR (fun k hk he => hap k hk he.symm), ok_R hS (fun k hk he => hap k he.symm hk), hB⟩
theorem ite_some {α : Type} {p : Prop} [Decidable p] {x : α} {r : α} (h : (if p then some x else none) = some r) : p ∧ some x = some r := by
  by_cases hp : p
  · rw [if_pos hp] at h; exact ⟨hp, h⟩
  · rw [if_neg hp] at h; exact absurd h (by simp)

end Go.Proofs.Ytebfblpoeeiagaa
