/- Printed by a program of this session off the program's translation: what the functions answer, and that they do. -/
-- squeezed
import Derived.Test.YtebfblpoeeiagaaQL0
import Derived.Test.YtebfblpoeeiagaaQL5
import Derived.Test.YtebfblpoeeiagaaQL6
namespace Go.Proofs.Ytebfblpoeeiagaa.QL
open Go.RowKit Go.Proofs.YtebfblpoeeiagaaW.PrintWords Go.Proofs.YtebfblpoeeiagaaW.PrintLast Go.Proofs.YtebfblpoeeiagaaW.PrintMore
attribute [local go_sem] max2_int min2_int max_two min_two max_three min_three max_four min_four   -- for this text's walks alone
set_option linter.unusedVariables false
set_option linter.unusedSimpArgs false

/-! ### lll_Reduce: function 4 -/
theorem lll_V {w : World} {base base' : Nat} {ok : Nat → Prop} {v : Value} {x : List (List S30)} (h : Kd.R (Kd.slice 30 k30) 32 w base ok v x) : Kd.V (Kd.slice 30 k30) 32 w base' ok v x := by
 exact Kd.N_V (Kd.R_N h)
set_option maxHeartbeats 8000000 in
set_option maxRecDepth 100000 in
theorem lll_run (p : Nat) (A : Option Addr) (c : Nat) (fv : Value) (w : World) (h : w.cell? ⟨p, 0, none⟩ = some (.slice A 1 c)) :
  Calls Try.prog 13 #[.pointer (some ⟨p, 0, none⟩), fv] w fun e w' => e = .returned (.tuple #[]) ∧ w = w' := by
 have hu := Try.underlying42
 go_enter Try.func13, Try.ntmps13
 go_wp2
 go_step3
 go_wp2
 go_step3
 go_wp2
 go_loop [4] (fun i => i = .int .i64 1) (fun _ => 0)
 case atStart => rfl
 case round =>
  obtain rfl := hrel
  go_wp2
  first | go_end0 | ((try simp only [Exit.inBlock, Exit.then]); refine bodyPost_ret (results_none rfl _ _ _) rfl ?_)
  exact ⟨rfl, rfl⟩

set_option maxHeartbeats 8000000 in
set_option maxRecDepth 100000 in
theorem lll_begun (A0 : Option Addr) (c0 : Nat) (l0 : List (List S30)) (D : List S30) (L : List (List S30)) (eW eU : Int) (u b : List (List S30)) (hl : l0.length = 1) (hW : gso_Wide.f 20 l0 = some (D, L, eW)) (hU : mat_Unit.f 20 1 = some (u, eU)) (hF : mat_Form.f 20 l0 = some b)
  (w : World) (hr : Kd.C (Kd.slice 30 k30) w A0 1 l0) (hc : 1 ≤ c0) :
  Calls Try.prog 12 #[.slice A0 1 c0] w fun e w' => ∃ p v0 v1 v2 v3 v4, e = .returned (.pointer (some ⟨p, 0, none⟩)) ∧ w.heap.size ≤ p ∧ w'.heap[p]? = some (.cells #[v0, v1, v2, v3, v4, .slice none 0 0] 42 (0, 0)) ∧
   Kd.R (Kd.slice 30 k30) 32 w' w.heap.size (fun _ => True) v0 b ∧ Kd.R (Kd.slice 30 k30) 32 w' w.heap.size (fun _ => True) v1 u ∧ Kd.R (Kd.slice 30 k30) 32 w' w.heap.size (fun _ => True) v2 u ∧ Below w.heap.size w w' := by
 have hu39 := Try.underlying39; have hu42 := Try.underlying42; have cW : ∀ W : World, Kd.C (Kd.slice 30 k30) W A0 1 l0 → Calls Try.prog 20 #[.slice A0 1 c0] W fun e w' => ∃ A1 n1 c1 A2 n2 c2, e = .returned (.tuple #[.agg #[.slice A1 n1 c1, .slice A2 n2 c2], .int .i64 eW]) ∧ Below W.heap.size W w' := by
  intro W h; have := gso_Wide.calls 20 A0 c0 l0 D L eW W; rw [hl] at this; refine (this h hc hW).mono ?_; rintro e w' ⟨v0, v1, rfl, h0, h1, hB⟩; obtain ⟨A1, c1, rfl⟩ := Kd.N_slice h0; obtain ⟨A2, c2, rfl⟩ := Kd.N_slice h1; exact ⟨_, _, _, _, _, _, rfl, hB⟩
 have cF : ∀ W : World, Kd.C (Kd.slice 30 k30) W A0 1 l0 → Calls Try.prog 22 #[.slice A0 1 c0] W fun e w' => ∃ A c, e = .returned (.slice A b.length c) ∧ Kd.R (Kd.slice 30 k30) 32 w' W.heap.size (fun _ => True) (.slice A b.length c) b ∧ Below W.heap.size W w' := by
  intro W h; have := mat_Form.calls 20 A0 c0 l0 b W; rw [hl] at this; refine (this h hc hF).mono ?_; rintro e w' ⟨v0, rfl, h0, hB⟩; obtain ⟨A1, c1, rfl⟩ := Kd.R_slice h0; exact ⟨_, _, rfl, h0, hB⟩
 have CW := Lib.hid cW; have CF := Lib.hid cF; have HR := Lib.hid hr; clear cW cF hr hl hW hF
 go_enter Try.func12, Try.ntmps12
 go_upto_region 3 with (first
  | (go_at_call 20; (with_reducible refine (CW.out _ HR.out).mono ?_); rintro e w1 ⟨A1, n1, c1, A2, n2, c2, rfl, hB1⟩; (have HB1 := Lib.hid hB1); clear hB1)
  | (go_at_call 21; (with_reducible refine (mat_Unit.calls 20 1 u eU _ hU).mono ?_); rintro e w2 ⟨v1, rfl, hR1, hB2⟩; obtain ⟨Au, cu, rfl⟩ := Kd.R_slice hR1; (have HR1 := Lib.hid hR1); (have HB2 := Lib.hid hB2); clear hR1 hB2))
 go_cut [3, 5, 7] (fun x y z wc => ∃ g A1 n1 c1 A2 n2 c2, x = .pointer (some ⟨g, 0, none⟩) ∧ wc.heap[g]? = some (.cells #[.slice A1 n1 c1, .slice A2 n2 c2] 39 (0, 0)) ∧ Kd.R (Kd.slice 30 k30) 32 wc w.heap.size (fun _ => True) y u ∧ Kd.R (Kd.slice 30 k30) 32 wc w.heap.size (fun _ => True) z u ∧ Below w.heap.size w wc)
 case first =>
  go_wp2_with (first
   | (go_at_call 21; (with_reducible refine (mat_Unit.calls 20 1 u eU _ hU).mono ?_); rintro e w3 ⟨v2, rfl, hR2, hB3⟩; obtain ⟨Av, cv, rfl⟩ := Kd.R_slice hR2; (have HR2 := Lib.hid hR2); (have HB3 := Lib.hid hB3); clear hR2 hB3))
  go_meet; have s1 := HB1.out.size; have s2 := HB2.out.size; have s3 := HB3.out.size; simp only [World.size_alloc] at s2; have t1 := below_then HB1.out s1 (below1 w1 (.cells #[.slice A1 n1 c1, .slice A2 n2 c2] 39)); have t2 := below_then t1 t1.size HB2.out; exact ⟨w1.heap.size, A1, n1, c1, A2, n2, c2, rfl, (HB3.out.block _ (by omega)).trans ((HB2.out.block _ (by simp)).trans (heap1 _ _)), Kd.R_below (Kd.R_lower HR1.out (by simp only [World.size_alloc]; omega)) HB3.out, Kd.R_lower HR2.out (by omega), below_then t2 t2.size HB3.out⟩
 case rest =>
  obtain ⟨g, A1, n1, c1, A2, n2, c2, rfl, hg, hu1, hu2, hB⟩ := hcut
  rename World => w4
  obtain ⟨Ay, cy, rfl⟩ := Kd.R_slice hu1; obtain ⟨Az, cz, rfl⟩ := Kd.R_slice hu2; obtain ⟨b1, b2, b3, b4⟩ := blk2 hg; have HU1 := Lib.hid hu1; have HU2 := Lib.hid hu2; have HB := Lib.hid hB; clear hu1 hu2 hB hg
  go_upto_region 4 with (fail)
  go_region_held3 (fun w' => w'.cell? ⟨g, 0, none⟩ = some (.slice A1 n1 c1) ∧ w'.cell? ⟨g, 1, none⟩ = some (.slice A2 n2 c2) ∧ Below w4.heap.size w4 w')
   (focus ((refine three b1 b2 ?_); (repeat (with_reducible first | exact Below.refl _ _ | exact below_drew (Below.refl _ _) | refine bl_drew ?_ | refine bl_alloc ?_ _ | refine bl_call ?_ (RowKit.Hid.out (by assumption)))); done))
   (first
    | (go_at_call 22; (with_reducible refine calls_pre (fun hp => CF.out _ hp) ?_ ?_); (focus ((refine Kd.C_below HR.out (below_then HB.out HB.out.size ?_)); (repeat (with_reducible first | exact Below.refl _ _ | exact below_drew (Below.refl _ _) | refine bl_drew ?_ | refine bl_alloc ?_ _ | refine bl_call ?_ (RowKit.Hid.out (by assumption)))); done)); rintro e w5 ⟨Af, cf, rfl, hRf, hBf⟩; (have HRF := Lib.hid hRf); (have HBF := Lib.hid hBf); clear hRf hBf))
  all_goals go_wp2_with fail
  all_goals go_ret
  all_goals exact ⟨_, _, _, _, _, _, rfl, Nat.le_trans HB.out.size HBF.out.size, heap1 _ _, Kd.R_below (Kd.R_lower HRF.out HB.out.size) (below1 _ _), Kd.R_below HU1.out (by (repeat (with_reducible first | exact Below.refl _ _ | exact below_drew (Below.refl _ _) | refine bl_drew ?_ | refine bl_alloc ?_ _ | refine bl_call ?_ (RowKit.Hid.out (by assumption))))), Kd.R_below HU2.out (by (repeat (with_reducible first | exact Below.refl _ _ | exact below_drew (Below.refl _ _) | refine bl_drew ?_ | refine bl_alloc ?_ _ | refine bl_call ?_ (RowKit.Hid.out (by assumption))))), below_then HB.out HB.out.size (by (repeat (with_reducible first | exact Below.refl _ _ | exact below_drew (Below.refl _ _) | refine bl_drew ?_ | refine bl_alloc ?_ _ | refine bl_call ?_ (RowKit.Hid.out (by assumption)))))⟩

set_option maxHeartbeats 8000000 in
set_option maxRecDepth 100000 in
theorem lll_reduced1 (A0 : Option Addr) (c0 : Nat) (l0 : List (List S30)) (D : List S30) (L : List (List S30)) (eW eU : Int) (u b : List (List S30)) (hl : l0.length = 1) (hbl : b.length = 1) (hW : gso_Wide.f 20 l0 = some (D, L, eW)) (hU : mat_Unit.f 20 1 = some (u, eU)) (hF : mat_Form.f 20 l0 = some b)
  (w : World) (hr : Kd.C (Kd.slice 30 k30) w A0 1 l0) (hc : 1 ≤ c0) :
  Calls Try.prog 8 #[.slice A0 1 c0] w fun e w' => ∃ p Ab cb Au cu Av cv v3 v4, e = .returned (.pointer (some ⟨p, 0, none⟩)) ∧ w'.heap[p]? = some (.cells #[.slice Ab 1 cb, .slice Au u.length cu, .slice Av u.length cv, v3, v4, .slice none 0 0] 42 (0, 0)) ∧
   Kd.R (Kd.slice 30 k30) 32 w' w.heap.size (fun _ => True) (.slice Ab 1 cb) b ∧ Kd.R (Kd.slice 30 k30) 32 w' w.heap.size (fun _ => True) (.slice Au u.length cu) u ∧ Kd.R (Kd.slice 30 k30) 32 w' w.heap.size (fun _ => True) (.slice Av u.length cv) u ∧ Below w.heap.size w w' := by
 have HR := Lib.hid hr; have HBL := Lib.hid hbl; have HL := Lib.hid hl; clear hr hbl hl
 go_enter Try.func8, Try.ntmps8
 go_wp2_with (first
  | (go_at_call 12; (with_reducible refine (lll_begun A0 c0 l0 D L eW eU u b HL.out hW hU hF _ HR.out hc).mono ?_); rintro e w1 ⟨p, v0, v1, v2, v3, v4, rfl, hp, hg, h0, h1, h2, hB⟩; obtain ⟨Ab, cb, rfl⟩ := Kd.R_slice h0; obtain ⟨Au, cu, rfl⟩ := Kd.R_slice h1; obtain ⟨Av, cv, rfl⟩ := Kd.R_slice h2; rw [HBL.out] at hg h0; (have HG := Lib.hid hg); (have H0 := Lib.hid h0); (have H1 := Lib.hid h1); (have H2 := Lib.hid h2); (have HB := Lib.hid hB); clear hg h0 h1 h2 hB)
  | (go_at_call 13; (with_reducible refine (lll_run p Ab cb _ _ (by simp [World.cell?, HG.out])).mono ?_); rintro e w2 ⟨rfl, rfl⟩))
 go_ret
 exact ⟨p, Ab, cb, Au, cu, Av, cv, v3, v4, rfl, HG.out, H0.out, H1.out, H2.out, HB.out⟩

set_option maxHeartbeats 8000000 in
set_option maxRecDepth 100000 in
theorem lll_red (A0 : Option Addr) (c0 : Nat) (l0 : List (List S30)) (D : List S30) (L : List (List S30)) (eW eU : Int) (u b : List (List S30)) (hl : l0.length = 1) (hbl : b.length = 1) (hV : gso_Valid.f 20 l0 = some 0) (hW : gso_Wide.f 20 l0 = some (D, L, eW)) (hU : mat_Unit.f 20 1 = some (u, eU)) (hF : mat_Form.f 20 l0 = some b)
  (w : World) (hr : Kd.C (Kd.slice 30 k30) w A0 1 l0) (hc : 1 ≤ c0) :
  Calls Try.prog 4 #[.slice A0 1 c0] w fun e w' => ∃ v0_ v1_ v2_ : Value, e = .returned (.tuple #[.agg #[v0_, v1_, v2_, .int .i64 0], .int .i64 0]) ∧ Kd.V (Kd.slice 30 k30) 32 w' w.heap.size (fun k_ => (w.heap.size ≤ k_)) v0_ b ∧ Kd.V (Kd.slice 30 k30) 32 w' w.heap.size (fun k_ => (w.heap.size ≤ k_)) v1_ u ∧ Kd.V (Kd.slice 30 k30) 32 w' w.heap.size (fun k_ => (w.heap.size ≤ k_)) v2_ u ∧ Below w.heap.size w w' := by
 have hu24 := Try.underlying24; have hu42 := Try.underlying42; have cV : ∀ W : World, Kd.C (Kd.slice 30 k30) W A0 1 l0 → Calls Try.prog 7 #[.slice A0 1 c0] W fun e w' => e = .returned (.int .i64 0) ∧ Below W.heap.size W w' := by
  intro W h; have := gso_Valid.calls 20 A0 c0 l0 0 W; rw [hl] at this; exact this h hc hV
 have CV := Lib.hid cV; have HR := Lib.hid hr; have HBL := Lib.hid hbl; have HL := Lib.hid hl; clear cV hr hbl hl
 go_enter Try.func4, Try.ntmps4
 go_upto_region 5 with (first
  | (go_at_call 7; (with_reducible refine (CV.out _ (Kd.C_below HR.out (below1 _ _))).mono ?_); rintro e w1 ⟨rfl, hB1⟩; (have HB1 := Lib.hid hB1); clear hB1)
  | (go_at_call 8; (with_reducible refine (lll_reduced1 A0 c0 l0 D L eW eU u b HL.out HBL.out hW hU hF _ (Kd.C_below HR.out (below_then (below1 _ _) (below1 _ _).size HB1.out)) hc).mono ?_); rintro e w2 ⟨p, Ab, cb, Au, cu, Av, cv, v3, v4, rfl, hg, h0, h1, h2, hB⟩; (have HG := Lib.hid hg); (have H0 := Lib.hid h0); (have H1 := Lib.hid h1); (have H2 := Lib.hid h2); (have HB := Lib.hid hB); clear hg h0 h1 h2 hB))
 have s1 := HB1.out.size; have s2 := HB.out.size; simp only [World.size_alloc] at s1; have hg0 : w2.heap[w.heap.size]? = some (.cells #[.slice none 0 0, .slice none 0 0, .slice none 0 0, .int .i64 0] 24 (0, 0)) := (HB.out.block _ (by omega)).trans ((HB1.out.block _ (by simp)).trans (heap1 _ _)); have q0 : w2.cell? ⟨p, 0, none⟩ = some (.slice Ab 1 cb) := by simp [World.cell?, HG.out]
 have q1 : w2.cell? ⟨p, 1, none⟩ = some (.slice Au u.length cu) := by simp [World.cell?, HG.out]
 have q2 : w2.cell? ⟨p, 2, none⟩ = some (.slice Av u.length cv) := by simp [World.cell?, HG.out]
 have q5 : w2.cell? ⟨p, 5, none⟩ = some (.slice none 0 0) := by simp [World.cell?, HG.out]
 have d0 : w2.cell? ⟨w.heap.size, 0, none⟩ = some (.slice none 0 0) := by simp [World.cell?, hg0]
 have d1 : w2.cell? ⟨w.heap.size, 1, none⟩ = some (.slice none 0 0) := by simp [World.cell?, hg0]
 have d2 : w2.cell? ⟨w.heap.size, 2, none⟩ = some (.slice none 0 0) := by simp [World.cell?, hg0]
 have d3 : w2.cell? ⟨w.heap.size, 3, none⟩ = some (.int .i64 0) := by simp [World.cell?, hg0]
 have f0 : w2.frozen? ⟨w.heap.size, 0, none⟩ = false := by simp [World.frozen?, hg0]
 have f1 : w2.frozen? ⟨w.heap.size, 1, none⟩ = false := by simp [World.frozen?, hg0]
 have f2 : w2.frozen? ⟨w.heap.size, 2, none⟩ = false := by simp [World.frozen?, hg0]
 have f3 : w2.frozen? ⟨w.heap.size, 3, none⟩ = false := by simp [World.frozen?, hg0]
 clear hg0 s1
 go_region
 all_goals go_wp2_with fail
 have t1 := below_then (below1 w (.cells #[.slice none 0 0, .slice none 0 0, .slice none 0 0, .int .i64 0] 24)) (below1 w _).size HB1.out; have t2 := below_then t1 t1.size HB.out; have s3 := t1.size; have s0 := HB1.out.size; simp only [World.size_alloc] at s0; have far : ∀ (v : Value) (x : List (List S30)) (a0 a1 a2 a3 : Value), Kd.R (Kd.slice 30 k30) 32 w2 w1.heap.size (fun _ => True) v x → Kd.V (Kd.slice 30 k30) 32 ((((w2.setCell ⟨w.heap.size, 0, none⟩ a0).setCell ⟨w.heap.size, 1, none⟩ a1).setCell ⟨w.heap.size, 2, none⟩ a2).setCell ⟨w.heap.size, 3, none⟩ a3) w.heap.size (fun k_ => w.heap.size ≤ k_) v x := by
  intro v x a0 a1 a2 a3 h; refine Kd.V_mono (lll_V (Kd.R_far (p := ⟨w.heap.size, 3, none⟩) (Kd.R_far (p := ⟨w.heap.size, 2, none⟩) (Kd.R_far (p := ⟨w.heap.size, 1, none⟩) (Kd.R_far (p := ⟨w.heap.size, 0, none⟩) (Kd.R_bound h) ?_ a0) ?_ a1) ?_ a2) ?_ a3)) (fun k hk => by have := hk.2.1; omega)
  all_goals intro k hk
  all_goals have := hk.2.1
  all_goals show k ≠ w.heap.size
  all_goals omega
 all_goals refine bodyPost_ret (v := .tuple #[.agg #[.slice Ab 1 cb, .slice Au u.length cu, .slice Av u.length cv, .int .i64 0], .int .i64 0]) (by simp [results, Try.results4, go_sem, d0, d1, d2, d3, f0, f1, f2, f3]) rfl ?_
 all_goals exact ⟨_, _, _, rfl, by first | exact far _ _ _ _ _ _ H0.out | exact Kd.V_drew (far _ _ _ _ _ _ H0.out), by first | exact far _ _ _ _ _ _ H1.out | exact Kd.V_drew (far _ _ _ _ _ _ H1.out), by first | exact far _ _ _ _ _ _ H2.out | exact Kd.V_drew (far _ _ _ _ _ _ H2.out), by
  have z := (((t2.setCell (p := ⟨w.heap.size, 0, none⟩) (Nat.le_refl _) (.slice Ab 1 cb)).setCell (p := ⟨w.heap.size, 1, none⟩) (Nat.le_refl _) (.slice Au u.length cu)).setCell (p := ⟨w.heap.size, 2, none⟩) (Nat.le_refl _) (.slice Av u.length cv)).setCell (p := ⟨w.heap.size, 3, none⟩) (Nat.le_refl _) (.int .i64 0)
  first | exact z | exact below_drew z⟩

def lll_Reduce.f (l0 : List (List (S30))) : Option ((List (List (S30))) × (List (List (S30))) × (List (List (S30))) × Int × Int) := (gso_Valid.f 20 l0).bind fun e => (gso_Wide.f 20 l0).bind fun g => (mat_Unit.f 20 1).bind fun u => (mat_Form.f 20 l0).bind fun b => if e = 0 ∧ l0.length = 1 ∧ b.length = 1 then some (b, u.1, u.1, 0, 0) else none
set_option maxHeartbeats 1000000 in
theorem lll_Reduce.calls (A0 : Option Addr) (c0 : Nat) (l0 : List (List (S30))) (r1 : List (List (S30))) (r2 : List (List (S30))) (r3 : List (List (S30))) (r4 : Int) (r5 : Int) (w : World) (hr0 : Kd.C (Kd.slice 30 k30) w A0 l0.length l0) (hc0 : l0.length ≤ c0) (h : lll_Reduce.f l0 = some (r1, r2, r3, r4, r5)) :
  Calls Try.prog 4 #[.slice A0 l0.length c0] w fun e w' => ∃ v0_ v1_ v2_ : Value, e = .returned (.tuple #[.agg #[v0_, v1_, v2_, .int .i64 r4], .int .i64 r5]) ∧ Kd.V (Kd.slice 30 k30) 32 w' w.heap.size (fun k_ => (w.heap.size ≤ k_)) v0_ r1 ∧ Kd.V (Kd.slice 30 k30) 32 w' w.heap.size (fun k_ => (w.heap.size ≤ k_)) v1_ r2 ∧ Kd.V (Kd.slice 30 k30) 32 w' w.heap.size (fun k_ => (w.heap.size ≤ k_)) v2_ r3 ∧ Below w.heap.size w w' := by
 unfold lll_Reduce.f at h; obtain ⟨e0, he, h⟩ := Option.bind_eq_some_iff.1 h; obtain ⟨⟨D, L, eW⟩, hg, h⟩ := Option.bind_eq_some_iff.1 h; obtain ⟨⟨u, eU⟩, hu, h⟩ := Option.bind_eq_some_iff.1 h; obtain ⟨b, hb, h⟩ := Option.bind_eq_some_iff.1 h; obtain ⟨⟨he0, hl, hbl⟩, h2⟩ := ite_some h; subst he0; have e := Option.some.inj h2; have e1 : b = r1 := congrArg (fun z => z.1) e; have e2 : u = r2 := congrArg (fun z => z.2.1) e; have e3 : u = r3 := congrArg (fun z => z.2.2.1) e; have e4 : 0 = r4 := congrArg (fun z => z.2.2.2.1) e; have e5 : 0 = r5 := congrArg (fun z => z.2.2.2.2) e; clear h h2 e; subst e1 e2 e3 e4 e5; rw [hl] at hr0 hc0 ⊢; exact lll_red A0 c0 l0 D L eW eU u b hl hbl he hg hu hb w hr0 hc0

end Go.Proofs.Ytebfblpoeeiagaa.QL
