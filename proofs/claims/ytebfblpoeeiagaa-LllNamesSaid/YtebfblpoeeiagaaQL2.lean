/- Printed by a program of this session off the program's translation: what the functions answer, and that they do. -/
-- squeezed
import Derived.Test.YtebfblpoeeiagaaQL0
import Derived.Test.YtebfblpoeeiagaaQL1
namespace Go.Proofs.Ytebfblpoeeiagaa.QL
open Go.RowKit Go.Proofs.YtebfblpoeeiagaaW.PrintWords Go.Proofs.YtebfblpoeeiagaaW.PrintLast Go.Proofs.YtebfblpoeeiagaaW.PrintMore
attribute [local go_sem] max2_int min2_int max_two min_two max_three min_three max_four min_four   -- for this text's walks alone
set_option linter.unusedVariables false
set_option linter.unusedSimpArgs false

/-! ### gso_shaped: function 18 -/
mutual
def gso_shaped.j0 : Nat → List (List (S30)) → Bool → Option (Int)
 | 0, _, _ => none
 | k + 1, x0, x5 => gso_shaped.l0 k x0 x5 x0 (x0.length : Int) 0
def gso_shaped.l0 : Nat → List (List (S30)) → Bool → List (List (S30)) → Int → Int → Option (Int)
 | 0, _, _, _, _, _ => none
 | k + 1, x0, x5, x22, x23, x24 => if x24 < x23 then (if 0 ≤ x24 then (if x24 < (x22.length : Int) then (if x5 = true then (gso_shaped.l0 k x0 true x22 x23 (wrap64 (x24 + 1))) else (gso_shaped.l0 k x0 (decide (((rd_L5 x22 x24).length : Int) > 12)) x22 x23 (wrap64 (x24 + 1)))) else (none)) else (none)) else (if x5 = true then (some 40) else (if (x0.length : Int) = 0 then (some 41) else ((mat_Shape.f k x0).bind fun bt110 => (some bt110.2.2))))
end
def gso_shaped.f (k : Nat) (l0 : List (List (S30))) (a1 : Bool) : Option (Int) := if (l0.length : Int) > 12 then (gso_shaped.j0 k l0 true) else (if a1 = true then ((mat_Bits.f k l0).bind fun t108 => (gso_shaped.j0 k l0 (decide (t108 > 256)))) else (gso_shaped.j0 k l0 false))
theorem gso_shaped.mono_l : ∀ k, (∀ y0 y1, LeO (gso_shaped.j0 k y0 y1) (gso_shaped.j0 (k + 1) y0 y1)) ∧ (∀ y0 y1 y2 y3 y4, LeO (gso_shaped.l0 k y0 y1 y2 y3 y4) (gso_shaped.l0 (k + 1) y0 y1 y2 y3 y4))
 | 0 => ⟨fun _ _ r h => by simp [gso_shaped.j0] at h, fun _ _ _ _ _ r h => by simp [gso_shaped.l0] at h⟩
 | k + 1 => by
  obtain ⟨ih0, ih1⟩ := gso_shaped.mono_l k; refine ⟨?_, ?_⟩; ·
   intro y0 y1; unfold gso_shaped.j0
   repeat' first
   | (with_reducible exact ih0 _ _)
   | (with_reducible exact ih1 _ _ _ _ _)
   | (with_reducible exact mat_Bits.mono _ _)
   | (with_reducible exact mat_Shape.mono _ _)
   | (with_reducible exact LeO.refl _)
   | (with_reducible exact LeO.none _)
   | (with_reducible refine LeO.ite ?_ ?_)
   | (with_reducible refine LeO.bind ?_ (fun _ => ?_))
   | exact ih0 _ _
   | exact ih1 _ _ _ _ _
   | exact mat_Bits.mono _ _
   | exact mat_Shape.mono _ _
   | exact LeO.none _
   | refine LeO.ite ?_ ?_
   | refine LeO.bind ?_ (fun _ => ?_)
  ·
   intro y0 y1 y2 y3 y4; unfold gso_shaped.l0
   repeat' first
   | (with_reducible exact ih0 _ _)
   | (with_reducible exact ih1 _ _ _ _ _)
   | (with_reducible exact mat_Bits.mono _ _)
   | (with_reducible exact mat_Shape.mono _ _)
   | (with_reducible exact LeO.refl _)
   | (with_reducible exact LeO.none _)
   | (with_reducible refine LeO.ite ?_ ?_)
   | (with_reducible refine LeO.bind ?_ (fun _ => ?_))
   | exact ih0 _ _
   | exact ih1 _ _ _ _ _
   | exact mat_Bits.mono _ _
   | exact mat_Shape.mono _ _
   | exact LeO.none _
   | refine LeO.ite ?_ ?_
   | refine LeO.bind ?_ (fun _ => ?_)
theorem gso_shaped.mono : ∀ a0 a1 k, LeO (gso_shaped.f k a0 a1) (gso_shaped.f (k + 1) a0 a1) := by
 intro a0 a1 k; obtain ⟨ih0, ih1⟩ := gso_shaped.mono_l k; unfold gso_shaped.f
 repeat' first
   | (with_reducible exact ih0 _ _)
   | (with_reducible exact ih1 _ _ _ _ _)
   | (with_reducible exact mat_Bits.mono _ _)
   | (with_reducible exact mat_Shape.mono _ _)
   | (with_reducible exact LeO.refl _)
   | (with_reducible exact LeO.none _)
   | (with_reducible refine LeO.ite ?_ ?_)
   | (with_reducible refine LeO.bind ?_ (fun _ => ?_))
   | exact ih0 _ _
   | exact ih1 _ _ _ _ _
   | exact mat_Bits.mono _ _
   | exact mat_Shape.mono _ _
   | exact LeO.none _
   | refine LeO.ite ?_ ?_
   | refine LeO.bind ?_ (fun _ => ?_)
set_option maxHeartbeats 8000000 in
set_option maxRecDepth 100000 in
theorem gso_shaped.calls (k : Nat) (A0 : Option Addr) (c0 : Nat) (l0 : List (List (S30))) (a1 : Bool) (r : Int) (w : World) (hr0 : Kd.C (Kd.slice 30 k30) w A0 l0.length l0) (hc0 : l0.length ≤ c0) (h : gso_shaped.f k l0 a1 = some r) :
  Calls Try.prog 18 #[.slice A0 l0.length c0, .bool a1] w fun e w' => e = .returned (.int .i64 r) ∧ Below w.heap.size w w' := by
 have HR0 := az hr0; have HC0 := az hc0; clear hr0 hc0; have HB := az (Below.refl w.heap.size w); have H : (if (l0.length : Int) > 12 then (gso_shaped.j0 k l0 true) else (if a1 = true then ((mat_Bits.f k l0).bind fun t108 => (gso_shaped.j0 k l0 (decide (t108 > 256)))) else (gso_shaped.j0 k l0 false))) = some r := h; clear h; have HC3 := az H; clear H
 go_enter Try.func18, Try.ntmps18
 go_upto_region 1 with (fail)
 go_cut [5] (fun v5 wc => ∃ (kq : Nat) (x5_2 : Bool), v5 = .bool x5_2 ∧ Aside0 (gso_shaped.j0 kq l0 x5_2 = some r) ∧ Aside0 (kq ≤ k) ∧ Aside0 (Below w.heap.size w wc))
 case first =>
  have H := HC3.out; clear HC3
  by_cases c4 : (l0.length : Int) > 12
  ·
   rw [if_pos c4] at H; have c4b0 : decide (12 < (l0.length : Int)) = true := decide_eq_true c4; have c4b1 : decide (12 < l0.length) = true := decide_eq_true (by omega); clear c4
   (first | rw [c4b0] | (simp only [i64_w, i32_w]; rw [c4b0]) | skip)
   have H' := az H; clear H
   go_wp2
   go_meet
   case rel => exact ⟨_, (true), (by first | rfl | (simp; done) | (simp [*]; done)), H', ⟨by first | omega | exact Nat.le_refl _⟩, ⟨zb⟩⟩
  ·
   rw [if_neg c4] at H; have c4b0 : decide (12 < (l0.length : Int)) = false := decide_eq_false c4; have c4b1 : decide (12 < l0.length) = false := decide_eq_false (by omega); clear c4
   (first | rw [c4b0] | (simp only [i64_w, i32_w]; rw [c4b0]) | skip)
   by_cases c5 : a1 = true
   ·
    subst c5; have H1 : ((mat_Bits.f k l0).bind fun t108 => (gso_shaped.j0 k l0 (decide (t108 > 256)))) = some r := by rw [if_pos rfl] at H; exact H
    clear H; have H := H1; clear H1; replace H := Option.bind_eq_some_iff.mp H; obtain ⟨t108, A60, H⟩ := H; replace H : (gso_shaped.j0 k l0 (decide (t108 > 256))) = some r := H; have A6 := az A60; clear A60; have H' := az H; clear H
    go_wp2_with (first | (go_at_call 31; (with_reducible refine (mat_Bits.calls k _ _ l0 t108 _ ?side1 ?side2 (zh A6.out)).mono ?_); (case side1 => exact zc (Kd.C_below HR0.out HB.out)); (case side2 => exact HC0.out); rintro e w7 ⟨rfl, hb⟩; have n0_ := az (below_step zb hb); clear HB; have HB := n0_; clear n0_; (try clear hb); (try clear hb2); (try clear hk); (try clear hi)))
    go_meet
    case rel => exact ⟨_, (decide (t108 > 256)), (by first | rfl | (simp; done) | (simp [*]; done)), H', ⟨by first | omega | exact Nat.le_refl _⟩, ⟨zb⟩⟩
   ·
    replace c5 := Bool.eq_false_iff.mpr c5; subst c5; have H1 : (gso_shaped.j0 k l0 false) = some r := by rw [if_neg (show ¬ (false = true) by decide)] at H; exact H
    clear H; have H := H1; clear H1; have H' := az H; clear H
    go_wp2
    go_meet
    case rel => exact ⟨_, (false), (by first | rfl | (simp; done) | (simp [*]; done)), H', ⟨by first | omega | exact Nat.le_refl _⟩, ⟨zb⟩⟩
 case rest =>
  clear HC3
  try clear c1
  try clear p2
  try clear c4
  try clear c4b0
  try clear c4b1
  try clear c5
  obtain ⟨kq, x5_2, rfl, HA, HJ2, HB⟩ := hcut
  cases kq with
  | zero => exact absurd HA.out (by simp [gso_shaped.j0])
  | succ kj2 =>
   have H := HA.out; clear HA; simp only [gso_shaped.j0] at H; have H' := az H; clear H
   go_wp2
   go_loopg [5, 24] kj2 (fun kq v5 v24 w' => ∃ (x5_2 : Bool) (x24_2 : Int), v5 = .bool x5_2 ∧ v24 = .int .i64 x24_2 ∧ Aside0 (gso_shaped.l0 kq l0 x5_2 l0 (l0.length : Int) x24_2 = some r) ∧ Aside0 (kq ≤ kj2) ∧ Aside0 (Below w.heap.size w w'))
   case atStart => exact ⟨(x5_2), (0), (by first | rfl | (simp; done) | (simp [*]; done)), (by first | rfl | (simp; done) | (simp [*]; done)), H', ⟨Nat.le_refl _⟩, ⟨zb⟩⟩
   case round =>
    clear H'
    try clear c1
    try clear p2
    try clear c4
    try clear c4b0
    try clear c4b1
    try clear c5
    try clear p2
    obtain ⟨x5_2, x24_2, rfl, rfl, HA, HK2, HB⟩ := hrel
    cases gk with
    | zero => exact absurd HA.out (by simp [gso_shaped.l0])
    | succ k2 =>
     have H := HA.out; clear HA; simp only [gso_shaped.l0] at H
     by_cases c8 : x24_2 < (l0.length : Int)
     ·
      rw [if_pos c8] at H; have c8b0 : decide (x24_2 < (l0.length : Int)) = true := decide_eq_true c8; clear c8
      by_cases c9 : 0 ≤ x24_2
      ·
       rw [if_pos c9] at H; have c9b0 : decide (0 ≤ x24_2) = true := decide_eq_true c9; clear c9
       by_cases c10 : x24_2 < (l0.length : Int)
       ·
        rw [if_pos c10] at H; have c10b0 : decide (x24_2 < (l0.length : Int)) = true := decide_eq_true c10; clear c10
        by_cases c11 : x5_2 = true
        ·
         subst c11; have H1 : (gso_shaped.l0 k2 l0 true l0 (l0.length : Int) (wrap64 (x24_2 + 1))) = some r := by rw [if_pos rfl] at H; exact H
         clear H; have H := H1; clear H1; have H' := az H; clear H; have p109 : 0 ≤ (x24_2 : Int) := of_decide_eq_true (by first | (with_reducible assumption) | assumption); have q109 : x24_2 < (l0.length : Int) := of_decide_eq_true (by first | (with_reducible assumption) | assumption); obtain ⟨ad109, A109_0, c109_0, e109, hx109_0, hl109_0, hi109_0⟩ := at_L5 HR0.out x24_2 p109 q109
         cases e109
         replace hx109_0 := (HB.out.cell (World.block_lt_of_cell? w _ hx109_0)).trans hx109_0; have HR109_0 := az hi109_0; have HC109_0 := az hl109_0; clear hi109_0 hl109_0; replace p109 := eq_true p109; replace q109 := eq_true q109
         go_wp2
         go_roundg k2
         case measure => have := HJ2.out; have := HK2.out; omega
         case rel => exact ⟨(true), (wrap64 (x24_2 + 1)), (by first | rfl | (simp; done) | (simp [*]; done)), (by first | rfl | (simp; done) | (simp [*]; done)), H', ⟨by have := HJ2.out; have := HK2.out; omega⟩, ⟨zb⟩⟩
        ·
         replace c11 := Bool.eq_false_iff.mpr c11; subst c11; have H1 : (gso_shaped.l0 k2 l0 (decide (((rd_L5 l0 x24_2).length : Int) > 12)) l0 (l0.length : Int) (wrap64 (x24_2 + 1))) = some r := by rw [if_neg (show ¬ (false = true) by decide)] at H; exact H
         clear H; have H := H1; clear H1; have H' := az H; clear H; have p109 : 0 ≤ (x24_2 : Int) := of_decide_eq_true (by first | (with_reducible assumption) | assumption); have q109 : x24_2 < (l0.length : Int) := of_decide_eq_true (by first | (with_reducible assumption) | assumption); obtain ⟨ad109, A109_0, c109_0, e109, hx109_0, hl109_0, hi109_0⟩ := at_L5 HR0.out x24_2 p109 q109
         cases e109
         replace hx109_0 := (HB.out.cell (World.block_lt_of_cell? w _ hx109_0)).trans hx109_0; have HR109_0 := az hi109_0; have HC109_0 := az hl109_0; clear hi109_0 hl109_0; replace p109 := eq_true p109; replace q109 := eq_true q109
         go_wp2
         go_roundg k2
         case measure => have := HJ2.out; have := HK2.out; omega
         case rel => exact ⟨(decide (((rd_L5 l0 x24_2).length : Int) > 12)), (wrap64 (x24_2 + 1)), (by first | rfl | (simp; done) | (simp [*]; done)), (by first | rfl | (simp; done) | (simp [*]; done)), H', ⟨by have := HJ2.out; have := HK2.out; omega⟩, ⟨zb⟩⟩
       · rw [if_neg c10] at H; exact absurd H (by simp)
      · rw [if_neg c9] at H; exact absurd H (by simp)
     ·
      rw [if_neg c8] at H; have c8b0 : decide (x24_2 < (l0.length : Int)) = false := decide_eq_false c8; clear c8
      by_cases c12 : x5_2 = true
      ·
       subst c12; have H1 : (some 40) = some r := by rw [if_pos rfl] at H; exact H
       clear H; have H := H1; clear H1; obtain rfl := Option.some.inj H
       go_wp2
       go_ret
       exact ⟨by first | rfl | (simp [errW_none, errW_some] <;> rfl) | (simp [*, errW_none, errW_some] <;> rfl), zb⟩
      ·
       replace c12 := Bool.eq_false_iff.mpr c12; subst c12; have H1 : (if (l0.length : Int) = 0 then (some 41) else ((mat_Shape.f k2 l0).bind fun bt110 => (some bt110.2.2))) = some r := by rw [if_neg (show ¬ (false = true) by decide)] at H; exact H
       clear H; have H := H1; clear H1
       by_cases c13 : (l0.length : Int) = 0
       ·
        rw [if_pos c13] at H; have c13b0 : ((l0.length : Int) == 0) = true := beq_iff_eq.mpr c13; have c13b1 : ((l0.length : Int) != 0) = false := bne_eq_false_iff_eq.mpr c13; clear c13; obtain rfl := Option.some.inj H
        go_wp2
        go_ret
        exact ⟨by first | rfl | (simp [errW_none, errW_some] <;> rfl) | (simp [*, errW_none, errW_some] <;> rfl), zb⟩
       ·
        rw [if_neg c13] at H; have c13b0 : ((l0.length : Int) == 0) = false := beq_eq_false_iff_ne.mpr c13; have c13b1 : ((l0.length : Int) != 0) = true := bne_iff_ne.mpr c13; have c13b2 : ¬ (l0 = []) := fun h_ => c13 (by rw [h_]; rfl)
        replace H := Option.bind_eq_some_iff.mp H; obtain ⟨⟨t110, t111, t112⟩, A140, H⟩ := H; replace H : (some t112) = some r := H; have A14 := az A140; clear A140; obtain rfl := Option.some.inj H
        go_wp2_with (first | ((with_reducible refine gate_callee (f := 32) rfl ?_); refine goesL_ (some 41) rfl rfl Try.func32 (by kernel_rfl) rfl #[.slice A0 l0.length c0] rfl zg ?_; (with_reducible refine (mat_Shape.calls k2 _ _ l0 t110 t111 t112 _ ?side1 ?side2 (zh A14.out)).mono ?_); (case side1 => exact zc (Kd.C_below HR0.out HB.out)); (case side2 => exact HC0.out); rintro e w' ⟨rfl, ⟨nd, rfl⟩⟩; refine ⟨_, rfl, ?_⟩))
        go_ret
        exact ⟨by first | rfl | (simp [errW_none, errW_some] <;> rfl) | (simp [*, errW_none, errW_some] <;> rfl), zb⟩

/-! ### zint_Sign: function 26 -/
def zint_Sign.f (a0_0 : Bool) (l0_1 : List Int) : Option (Int) := if okL l0_1 = true then some (sg (zv a0_0 l0_1)) else none
set_option maxHeartbeats 1000000 in
theorem zint_Sign.calls (a0_0 : Bool) (A0_1 : Option Addr) (c0_1 : Nat) (l0_1 : List Int) (r : Int) (w : World) (hr0_1 : Kd.C (Kd.int .u32) w A0_1 l0_1.length l0_1) (hc0_1 : l0_1.length ≤ c0_1) (h : zint_Sign.f a0_0 l0_1 = some r) :
  Calls Try.prog 26 #[.agg #[.bool a0_0, .slice A0_1 l0_1.length c0_1]] w fun e w' => e = .returned (.int .i64 r) ∧ Below w.heap.size w w' := by
 unfold zint_Sign.f at h; obtain ⟨hg, h⟩ := ite_some h; exact (Go.Proofs.Ytebfblpoeeiagaa.zint_Sign _ _ _ _ _ _ _ (okL_gi _ hr0_1 hc0_1 hg) (okL_lim hg).2).mono fun e w' h' => by obtain rfl := Option.some.inj h; exact h'

/-! ### zint_Of: function 33 -/
def zint_Of.f (a0 : Int) : Option (Bool × List Int) := if -9223372036854775808 ≤ a0 ∧ a0 < 9223372036854775808 then some (cz a0) else none
set_option maxHeartbeats 1000000 in
theorem zint_Of.calls (a0 : Int) (r1 : Bool) (r2 : List Int) (w : World) (h : zint_Of.f a0 = some (r1, r2)) :
  Calls Try.prog 33 #[.int .i64 a0] w fun e w' => ∃ v1_ : Value, e = .returned (.agg #[.bool r1, v1_]) ∧ Kd.R (Kd.int .u32) 44 w' w.heap.size (fun _ => True) v1_ r2 ∧ Below w.heap.size w w' := by
 unfold zint_Of.f at h; obtain ⟨hg, h⟩ := ite_some h; exact (Go.Proofs.Ytebfblpoeeiagaa.zint_Of _ _ hg.1 hg.2).mono fun e w' h' => ret_R h' h

/-! ### zint_Mul: function 36 -/
def zint_Mul.f (a0_0 : Bool) (l0_1 : List Int) (a1_0 : Bool) (l1_1 : List Int) : Option (Bool × List Int) := if okL l0_1 = true ∧ okL l1_1 = true then some (cz (zv a0_0 l0_1 * (zv a1_0 l1_1))) else none
set_option maxHeartbeats 1000000 in
theorem zint_Mul.calls (a0_0 : Bool) (A0_1 : Option Addr) (c0_1 : Nat) (l0_1 : List Int) (a1_0 : Bool) (A1_1 : Option Addr) (c1_1 : Nat) (l1_1 : List Int) (r1 : Bool) (r2 : List Int) (w : World) (hr0_1 : Kd.C (Kd.int .u32) w A0_1 l0_1.length l0_1) (hc0_1 : l0_1.length ≤ c0_1) (hr1_1 : Kd.C (Kd.int .u32) w A1_1 l1_1.length l1_1) (hc1_1 : l1_1.length ≤ c1_1) (h : zint_Mul.f a0_0 l0_1 a1_0 l1_1 = some (r1, r2)) :
  Calls Try.prog 36 #[.agg #[.bool a0_0, .slice A0_1 l0_1.length c0_1], .agg #[.bool a1_0, .slice A1_1 l1_1.length c1_1]] w fun e w' => ∃ v1_ : Value, e = .returned (.agg #[.bool r1, v1_]) ∧ Kd.R (Kd.int .u32) 44 w' w.heap.size (fun _ => True) v1_ r2 ∧ Below w.heap.size w w' := by
 unfold zint_Mul.f at h; obtain ⟨hg, h⟩ := ite_some h; exact (Go.Proofs.Ytebfblpoeeiagaa.zint_Mul _ _ _ _ _ _ _ _ _ _ _ _ _ (okL_gi _ hr0_1 hc0_1 hg.1) (okL_gi _ hr1_1 hc1_1 hg.2) (okL_lim hg.1).2 (okL_lim hg.2).2).mono fun e w' h' => ret_R h' h

/-! ### zint_Add: function 42 -/
def zint_Add.f (a0_0 : Bool) (l0_1 : List Int) (a1_0 : Bool) (l1_1 : List Int) : Option (Bool × List Int) := if okL l0_1 = true ∧ okL l1_1 = true then some (cz (zv a0_0 l0_1 + zv a1_0 l1_1)) else none
set_option maxHeartbeats 1000000 in
theorem zint_Add.calls (a0_0 : Bool) (A0_1 : Option Addr) (c0_1 : Nat) (l0_1 : List Int) (a1_0 : Bool) (A1_1 : Option Addr) (c1_1 : Nat) (l1_1 : List Int) (r1 : Bool) (r2 : List Int) (w : World) (hr0_1 : Kd.C (Kd.int .u32) w A0_1 l0_1.length l0_1) (hc0_1 : l0_1.length ≤ c0_1) (hr1_1 : Kd.C (Kd.int .u32) w A1_1 l1_1.length l1_1) (hc1_1 : l1_1.length ≤ c1_1) (h : zint_Add.f a0_0 l0_1 a1_0 l1_1 = some (r1, r2)) :
  Calls Try.prog 42 #[.agg #[.bool a0_0, .slice A0_1 l0_1.length c0_1], .agg #[.bool a1_0, .slice A1_1 l1_1.length c1_1]] w fun e w' => ∃ v1_ : Value, e = .returned (.agg #[.bool r1, v1_]) ∧ Kd.R (Kd.int .u32) 44 w' w.heap.size (fun _ => True) v1_ r2 ∧ Below w.heap.size w w' := by
 unfold zint_Add.f at h; obtain ⟨hg, h⟩ := ite_some h; exact (Go.Proofs.Ytebfblpoeeiagaa.zint_Add _ _ _ _ _ _ _ _ _ _ _ _ _ (okL_gi _ hr0_1 hc0_1 hg.1) (okL_gi _ hr1_1 hc1_1 hg.2) (okL_lim hg.1).2 (okL_lim hg.2).2).mono fun e w' h' => ret_R h' h

end Go.Proofs.Ytebfblpoeeiagaa.QL
