/- Printed by a program of this session off the program's translation: what the functions answer, and that they do. -/
-- squeezed
import Derived.Test.YtebfblpoeeiagaaQL0
import Derived.Test.YtebfblpoeeiagaaQL8
namespace Go.Proofs.Ytebfblpoeeiagaa.QL
open Go.RowKit Go.Proofs.YtebfblpoeeiagaaW.PrintWords Go.Proofs.YtebfblpoeeiagaaW.PrintLast Go.Proofs.YtebfblpoeeiagaaW.PrintMore
attribute [local go_sem] max2_int min2_int max_two min_two max_three min_three max_four min_four   -- for this text's walks alone
set_option linter.unusedVariables false
set_option linter.unusedSimpArgs false

/-! ### trammelref02_Sign: function 16 -/
def trammelref02_Sign.f (k : Nat) (a0_0 : Bool) (l0_1 : List Int) : Option (Int) := (trammelref01_Norm.f k l0_1).bind fun t313 => (if (t313.length : Int) = 0 then (some 0) else (if a0_0 = true then (some (-1)) else (some 1)))
theorem trammelref02_Sign.mono : ∀ a0 a1 k, LeO (trammelref02_Sign.f k a0 a1) (trammelref02_Sign.f (k + 1) a0 a1) := by
 intro a0 a1 k; unfold trammelref02_Sign.f
 repeat' first
   | (with_reducible exact trammelref01_Norm.mono _ _)
   | (with_reducible exact LeO.refl _)
   | (with_reducible exact LeO.none _)
   | (with_reducible refine LeO.ite ?_ ?_)
   | (with_reducible refine LeO.bind ?_ (fun _ => ?_))
   | exact trammelref01_Norm.mono _ _
   | exact LeO.none _
   | refine LeO.ite ?_ ?_
   | refine LeO.bind ?_ (fun _ => ?_)
set_option maxHeartbeats 8000000 in
set_option maxRecDepth 100000 in
theorem trammelref02_Sign.calls (k : Nat) (a0_0 : Bool) (A0_1 : Option Addr) (c0_1 : Nat) (l0_1 : List Int) (r : Int) (w : World) (hr0_1 : Kd.C (Kd.int .u32) w A0_1 l0_1.length l0_1) (hc0_1 : l0_1.length ≤ c0_1) (h : trammelref02_Sign.f k a0_0 l0_1 = some r) :
  Calls Try.prog 16 #[.agg #[.bool a0_0, .slice A0_1 l0_1.length c0_1]] w fun e w' => e = .returned (.int .i64 r) ∧ Below w.heap.size w w' := by
 have hu30 := Try.underlying30; have HR0_1 := az hr0_1; have HC0_1 := az hc0_1; clear hr0_1 hc0_1; have HB := az (Below.refl w.heap.size w); have H : ((trammelref01_Norm.f k l0_1).bind fun t313 => (if (t313.length : Int) = 0 then (some 0) else (if a0_0 = true then (some (-1)) else (some 1)))) = some r := h; clear h; replace H := Option.bind_eq_some_iff.mp H; obtain ⟨t313, A20, H⟩ := H; replace H : (if (t313.length : Int) = 0 then (some 0) else (if a0_0 = true then (some (-1)) else (some 1))) = some r := H; have A2 := az A20; clear A20
 by_cases c3 : (t313.length : Int) = 0
 ·
  rw [if_pos c3] at H; have c3b0 : ((t313.length : Int) == 0) = true := beq_iff_eq.mpr c3; have c3b1 : ((t313.length : Int) != 0) = false := bne_eq_false_iff_eq.mpr c3; clear c3; obtain rfl := Option.some.inj H
  go_enter Try.func16, Try.ntmps16
  go_wp2_with (first | ((with_reducible refine gate_dst (N := 1) rfl ?_); refine box_event ?hg (N := 1) ?hd (cs := #[.bool a0_0, .slice A0_1 l0_1.length c0_1]) (t := 30) ?hr ?_; (case hd => rfl); (case hg => rfl); (case hr => first | (go_simp; done) | (go_simp; rfl)); intro gb312 hg w4 hbox hb; have n0_ := az (below_step zb hb); have n1_ := az (hbox); have n2_ := az ((by rw [hg]; exact (below_size zb) : w.heap.size ≤ gb312)); have n3_ := az ((by rw [hg]; exact (below_size zb) : w.heap.size ≤ gb312)); clear HB; have HB := n0_; have BK312 := n1_; have GW312 := n2_; have GE312 := n3_; clear n0_ n1_ n2_ n3_ hb hbox hg; have hcz5_0 : w4.cell? ⟨gb312, 0, none⟩ = some (.bool a0_0) := (blk_cell BK312.out 0).trans rfl; have hcz5_1 : w4.cell? ⟨gb312, 1, none⟩ = some (.slice A0_1 l0_1.length c0_1) := (blk_cell BK312.out 1).trans rfl; have hfz5_0 := blk_frozen BK312.out 0; have hfz5_1 := blk_frozen BK312.out 1) | ((with_reducible refine gate_callee (f := 28) rfl ?_); refine goesL_ (some 6) rfl rfl Try.func28 (by kernel_rfl) rfl #[.slice A0_1 l0_1.length c0_1] rfl zg ?_; (with_reducible refine (trammelref01_Norm.calls k _ _ l0_1 t313 _ ?side1 ?side2 (zh A2.out)).mono ?_); (case side1 => exact zc (Kd.C_below HR0_1.out HB.out)); (case side2 => exact HC0_1.out); rintro e w6 ⟨v314, rfl, ho0, hb⟩; refine ⟨_, rfl, ?_⟩; have n0_ := az (Kd.R_lower ho0 (below_size zb)); have n1_ := az (blk_below (g := gb312) (o := .cells #[.bool a0_0, .slice A0_1 l0_1.length c0_1] 30 (0, 0)) (zm BK312.out) hb); have n2_ := az (below_step zb hb); clear BK312 HB; have HO315 := n0_; have BK312 := n1_; have HB := n2_; clear n0_ n1_ n2_; (try clear hb); (try clear hb2); (try clear hk); (try clear hi); (try clear ho0); obtain ⟨Ao7, co7, eo7⟩ := Kd.R_slice HO315.out; subst eo7))
  go_ret
  exact ⟨by first | rfl | (simp [errW_none, errW_some] <;> rfl) | (simp [*, errW_none, errW_some] <;> rfl), zb⟩
 ·
  rw [if_neg c3] at H; have c3b0 : ((t313.length : Int) == 0) = false := beq_eq_false_iff_ne.mpr c3; have c3b1 : ((t313.length : Int) != 0) = true := bne_iff_ne.mpr c3; have c3b2 : ¬ (t313 = []) := fun h_ => c3 (by rw [h_]; rfl)
  by_cases c8 : a0_0 = true
  ·
   subst c8; have H1 : (some (-1)) = some r := by rw [if_pos rfl] at H; exact H
   clear H; have H := H1; clear H1; obtain rfl := Option.some.inj H
   go_enter Try.func16, Try.ntmps16
   go_wp2_with (first | ((with_reducible refine gate_dst (N := 1) rfl ?_); refine box_event ?hg (N := 1) ?hd (cs := #[.bool true, .slice A0_1 l0_1.length c0_1]) (t := 30) ?hr ?_; (case hd => rfl); (case hg => rfl); (case hr => first | (go_simp; done) | (go_simp; rfl)); intro gb312 hg w9 hbox hb; have n0_ := az (below_step zb hb); have n1_ := az (hbox); have n2_ := az ((by rw [hg]; exact (below_size zb) : w.heap.size ≤ gb312)); have n3_ := az ((by rw [hg]; exact (below_size zb) : w.heap.size ≤ gb312)); clear HB; have HB := n0_; have BK312 := n1_; have GW312 := n2_; have GE312 := n3_; clear n0_ n1_ n2_ n3_ hb hbox hg; have hcz10_0 : w9.cell? ⟨gb312, 0, none⟩ = some (.bool true) := (blk_cell BK312.out 0).trans rfl; have hcz10_1 : w9.cell? ⟨gb312, 1, none⟩ = some (.slice A0_1 l0_1.length c0_1) := (blk_cell BK312.out 1).trans rfl; have hfz10_0 := blk_frozen BK312.out 0; have hfz10_1 := blk_frozen BK312.out 1) | ((with_reducible refine gate_callee (f := 28) rfl ?_); refine goesL_ (some 6) rfl rfl Try.func28 (by kernel_rfl) rfl #[.slice A0_1 l0_1.length c0_1] rfl zg ?_; (with_reducible refine (trammelref01_Norm.calls k _ _ l0_1 t313 _ ?side1 ?side2 (zh A2.out)).mono ?_); (case side1 => exact zc (Kd.C_below HR0_1.out HB.out)); (case side2 => exact HC0_1.out); rintro e w11 ⟨v314, rfl, ho0, hb⟩; refine ⟨_, rfl, ?_⟩; have n0_ := az (Kd.R_lower ho0 (below_size zb)); have n1_ := az (blk_below (g := gb312) (o := .cells #[.bool true, .slice A0_1 l0_1.length c0_1] 30 (0, 0)) (zm BK312.out) hb); have n2_ := az (below_step zb hb); clear BK312 HB; have HO315 := n0_; have BK312 := n1_; have HB := n2_; clear n0_ n1_ n2_; (try clear hb); (try clear hb2); (try clear hk); (try clear hi); (try clear ho0); obtain ⟨Ao12, co12, eo12⟩ := Kd.R_slice HO315.out; subst eo12; have hcz13_0 : w11.cell? ⟨gb312, 0, none⟩ = some (.bool true) := (blk_cell BK312.out 0).trans rfl; have hcz13_1 : w11.cell? ⟨gb312, 1, none⟩ = some (.slice A0_1 l0_1.length c0_1) := (blk_cell BK312.out 1).trans rfl; have hfz13_0 := blk_frozen BK312.out 0; have hfz13_1 := blk_frozen BK312.out 1))
   go_ret
   exact ⟨by first | rfl | (simp [errW_none, errW_some] <;> rfl) | (simp [*, errW_none, errW_some] <;> rfl), zb⟩
  ·
   replace c8 := Bool.eq_false_iff.mpr c8; subst c8; have H1 : (some 1) = some r := by rw [if_neg (show ¬ (false = true) by decide)] at H; exact H
   clear H; have H := H1; clear H1; obtain rfl := Option.some.inj H
   go_enter Try.func16, Try.ntmps16
   go_wp2_with (first | ((with_reducible refine gate_dst (N := 1) rfl ?_); refine box_event ?hg (N := 1) ?hd (cs := #[.bool false, .slice A0_1 l0_1.length c0_1]) (t := 30) ?hr ?_; (case hd => rfl); (case hg => rfl); (case hr => first | (go_simp; done) | (go_simp; rfl)); intro gb312 hg w14 hbox hb; have n0_ := az (below_step zb hb); have n1_ := az (hbox); have n2_ := az ((by rw [hg]; exact (below_size zb) : w.heap.size ≤ gb312)); have n3_ := az ((by rw [hg]; exact (below_size zb) : w.heap.size ≤ gb312)); clear HB; have HB := n0_; have BK312 := n1_; have GW312 := n2_; have GE312 := n3_; clear n0_ n1_ n2_ n3_ hb hbox hg; have hcz15_0 : w14.cell? ⟨gb312, 0, none⟩ = some (.bool false) := (blk_cell BK312.out 0).trans rfl; have hcz15_1 : w14.cell? ⟨gb312, 1, none⟩ = some (.slice A0_1 l0_1.length c0_1) := (blk_cell BK312.out 1).trans rfl; have hfz15_0 := blk_frozen BK312.out 0; have hfz15_1 := blk_frozen BK312.out 1) | ((with_reducible refine gate_callee (f := 28) rfl ?_); refine goesL_ (some 6) rfl rfl Try.func28 (by kernel_rfl) rfl #[.slice A0_1 l0_1.length c0_1] rfl zg ?_; (with_reducible refine (trammelref01_Norm.calls k _ _ l0_1 t313 _ ?side1 ?side2 (zh A2.out)).mono ?_); (case side1 => exact zc (Kd.C_below HR0_1.out HB.out)); (case side2 => exact HC0_1.out); rintro e w16 ⟨v314, rfl, ho0, hb⟩; refine ⟨_, rfl, ?_⟩; have n0_ := az (Kd.R_lower ho0 (below_size zb)); have n1_ := az (blk_below (g := gb312) (o := .cells #[.bool false, .slice A0_1 l0_1.length c0_1] 30 (0, 0)) (zm BK312.out) hb); have n2_ := az (below_step zb hb); clear BK312 HB; have HO315 := n0_; have BK312 := n1_; have HB := n2_; clear n0_ n1_ n2_; (try clear hb); (try clear hb2); (try clear hk); (try clear hi); (try clear ho0); obtain ⟨Ao17, co17, eo17⟩ := Kd.R_slice HO315.out; subst eo17; have hcz18_0 : w16.cell? ⟨gb312, 0, none⟩ = some (.bool false) := (blk_cell BK312.out 0).trans rfl; have hcz18_1 : w16.cell? ⟨gb312, 1, none⟩ = some (.slice A0_1 l0_1.length c0_1) := (blk_cell BK312.out 1).trans rfl; have hfz18_0 := blk_frozen BK312.out 0; have hfz18_1 := blk_frozen BK312.out 1))
   go_ret
   exact ⟨by first | rfl | (simp [errW_none, errW_some] <;> rfl) | (simp [*, errW_none, errW_some] <;> rfl), zb⟩

/-! ### trammelref01_most: function 69 -/
def trammelref01_most.f (a0 : Int) (a1 : Int) : Option (Int) := if a0 > a1 then (some a0) else (some a1)
set_option maxHeartbeats 8000000 in
set_option maxRecDepth 100000 in
theorem trammelref01_most.calls (a0 : Int) (a1 : Int) (r : Int) (w : World) (h : trammelref01_most.f a0 a1 = some r) :
  Calls Try.prog 69 #[.int .i64 a0, .int .i64 a1] w fun e w' => e = .returned (.int .i64 r) ∧ Drawn0 w w' := by
 have H : (if a0 > a1 then (some a0) else (some a1)) = some r := h; clear h
 by_cases c3 : a0 > a1
 ·
  rw [if_pos c3] at H; have c3b0 : decide (a1 < a0) = true := decide_eq_true c3; clear c3; obtain rfl := Option.some.inj H
  go_enter Try.func69, Try.ntmps69
  go_wp2
  go_ret
  exact ⟨by first | rfl | (simp; done) | (simp [*]; done), by repeat (first | exact Drawn0.refl _ | apply Drawn0.step)⟩
 ·
  rw [if_neg c3] at H; have c3b0 : decide (a1 < a0) = false := decide_eq_false c3; clear c3; obtain rfl := Option.some.inj H
  go_enter Try.func69, Try.ntmps69
  go_wp2
  go_ret
  exact ⟨by first | rfl | (simp; done) | (simp [*]; done), by repeat (first | exact Drawn0.refl _ | apply Drawn0.step)⟩

/-! ### trammelref01_limb: function 70 -/
def trammelref01_limb.f (l0 : List Int) (a1 : Int) : Option (Int) := if a1 < (l0.length : Int) then (if 0 ≤ a1 then (some (IntKind.u64.wrap (rd l0 a1))) else (none)) else (some 0)
set_option maxHeartbeats 8000000 in
set_option maxRecDepth 100000 in
theorem trammelref01_limb.calls (A0 : Option Addr) (c0 : Nat) (l0 : List Int) (a1 : Int) (r : Int) (w : World) (hr0 : Kd.C (Kd.int .u32) w A0 l0.length l0) (hc0 : l0.length ≤ c0) (h : trammelref01_limb.f l0 a1 = some r) :
  Calls Try.prog 70 #[.slice A0 l0.length c0, .int .i64 a1] w fun e w' => e = .returned (.int .u64 r) ∧ Drawn0 w w' := by
 have HR0 := az hr0; have HC0 := az hc0; clear hr0 hc0; have H : (if a1 < (l0.length : Int) then (if 0 ≤ a1 then (some (IntKind.u64.wrap (rd l0 a1))) else (none)) else (some 0)) = some r := h; clear h
 by_cases c3 : a1 < (l0.length : Int)
 ·
  rw [if_pos c3] at H; have c3b0 : decide (a1 < (l0.length : Int)) = true := decide_eq_true c3; clear c3
  by_cases c4 : 0 ≤ a1
  ·
   rw [if_pos c4] at H; have c4b0 : decide (0 ≤ a1) = true := decide_eq_true c4; clear c4; obtain rfl := Option.some.inj H; have p316 : 0 ≤ (a1 : Int) := of_decide_eq_true (by first | (with_reducible assumption) | assumption); have q316 : a1 < (l0.length : Int) := of_decide_eq_true (by first | (with_reducible assumption) | assumption); obtain ⟨ad316, e316, hx316_0⟩ := Kd.at_int HR0.out a1 p316 q316
   cases e316
   replace p316 := eq_true p316; replace q316 := eq_true q316
   go_enter Try.func70, Try.ntmps70
   go_wp2
   go_ret
   exact ⟨by first | rfl | (simp; done) | (simp [*]; done), by repeat (first | exact Drawn0.refl _ | apply Drawn0.step)⟩
  · rw [if_neg c4] at H; exact absurd H (by simp)
 ·
  rw [if_neg c3] at H; have c3b0 : decide (a1 < (l0.length : Int)) = false := decide_eq_false c3; clear c3; obtain rfl := Option.some.inj H
  go_enter Try.func70, Try.ntmps70
  go_wp2
  go_ret
  exact ⟨by first | rfl | (simp; done) | (simp [*]; done), by repeat (first | exact Drawn0.refl _ | apply Drawn0.step)⟩

/-! ### trammelref01_Add: function 50 -/
def trammelref01_Add.l0 : Nat → List Int → List Int → List Int → Int → Int → Option (List Int)
 | 0, _, _, _, _, _ => none
 | k + 1, x0, x1, x5, x6, x7 => (trammelref01_most.f (x0.length : Int) (x1.length : Int)).bind fun t317 => (if x7 < t317 then ((trammelref01_limb.f x0 x7).bind fun t318 => ((trammelref01_limb.f x1 x7).bind fun t319 => (if x5.length < 35184372088832 then (trammelref01_Add.l0 k x0 x1 (x5 ++ [(Int.tmod (IntKind.u64.wrap ((IntKind.u64.wrap (x6 + t318)) + t319)) 4294967296) % 4294967296]) (IntKind.u64.wrap (Int.tdiv (IntKind.u64.wrap ((IntKind.u64.wrap (x6 + t318)) + t319)) 4294967296)) (wrap64 (x7 + 1))) else (none)))) else (if x5.length < 35184372088832 then ((trammelref01_Norm.f k (x5 ++ [(x6) % 4294967296])).bind fun t326 => (some t326)) else (none)))
def trammelref01_Add.f (k : Nat) (l0 : List Int) (l1 : List Int) : Option (List Int) := trammelref01_Add.l0 k l0 l1 ([] : List Int) 0 0
theorem trammelref01_Add.mono_l : ∀ k, (∀ y0 y1 y2 y3 y4, LeO (trammelref01_Add.l0 k y0 y1 y2 y3 y4) (trammelref01_Add.l0 (k + 1) y0 y1 y2 y3 y4))
 | 0 => fun _ _ _ _ _ r h => by simp [trammelref01_Add.l0] at h
 | k + 1 => by
  have ih0 := trammelref01_Add.mono_l k; ·
   intro y0 y1 y2 y3 y4; unfold trammelref01_Add.l0
   repeat' first
   | (with_reducible exact ih0 _ _ _ _ _)
   | (with_reducible exact trammelref01_Norm.mono _ _)
   | (with_reducible exact LeO.refl _)
   | (with_reducible exact LeO.none _)
   | (with_reducible refine LeO.ite ?_ ?_)
   | (with_reducible refine LeO.bind ?_ (fun _ => ?_))
   | exact ih0 _ _ _ _ _
   | exact trammelref01_Norm.mono _ _
   | exact LeO.none _
   | refine LeO.ite ?_ ?_
   | refine LeO.bind ?_ (fun _ => ?_)
theorem trammelref01_Add.mono : ∀ a0 a1 k, LeO (trammelref01_Add.f k a0 a1) (trammelref01_Add.f (k + 1) a0 a1) := by
 intro a0 a1 k; have ih0 := trammelref01_Add.mono_l k; unfold trammelref01_Add.f
 repeat' first
   | (with_reducible exact ih0 _ _ _ _ _)
   | (with_reducible exact trammelref01_Norm.mono _ _)
   | (with_reducible exact LeO.refl _)
   | (with_reducible exact LeO.none _)
   | (with_reducible refine LeO.ite ?_ ?_)
   | (with_reducible refine LeO.bind ?_ (fun _ => ?_))
   | exact ih0 _ _ _ _ _
   | exact trammelref01_Norm.mono _ _
   | exact LeO.none _
   | refine LeO.ite ?_ ?_
   | refine LeO.bind ?_ (fun _ => ?_)
set_option maxHeartbeats 8000000 in
set_option maxRecDepth 100000 in
theorem trammelref01_Add.calls (k : Nat) (A0 : Option Addr) (c0 : Nat) (l0 : List Int) (A1 : Option Addr) (c1 : Nat) (l1 : List Int) (r : List Int) (w : World) (hr0 : Kd.C (Kd.int .u32) w A0 l0.length l0) (hc0 : l0.length ≤ c0) (hr1 : Kd.C (Kd.int .u32) w A1 l1.length l1) (hc1 : l1.length ≤ c1) (h : trammelref01_Add.f k l0 l1 = some r) :
  Calls Try.prog 50 #[.slice A0 l0.length c0, .slice A1 l1.length c1] w fun e w' => ∃ v0_ : Value, e = .returned (v0_) ∧ Kd.R (Kd.int .u32) 44 w' w.heap.size (fun _ => True) v0_ r ∧ Below w.heap.size w w' := by
 have HR0 := az hr0; have HC0 := az hc0; clear hr0 hc0; have HR1 := az hr1; have HC1 := az hc1; clear hr1 hc1; have HB := az (Below.refl w.heap.size w); have H : (trammelref01_Add.l0 k l0 l1 ([] : List Int) 0 0) = some r := h; clear h; have H' := az H; clear H
 go_enter Try.func50, Try.ntmps50
 go_wp2
 go_loopg [5, 6, 7] k (fun kq v5 v6 v7 w' => ∃ (x5_1 : List Int) (x6_1 : Int) (x7_1 : Int), v6 = .int .u64 x6_1 ∧ v7 = .int .i64 x7_1 ∧ Aside0 (trammelref01_Add.l0 kq l0 l1 x5_1 x6_1 x7_1 = some r) ∧ Aside0 (kq ≤ k) ∧ Aside0 (Kd.R (Kd.int .u32) 44 w' w.heap.size (fun _ => True) v5 x5_1) ∧ Aside0 (Below w.heap.size w w'))
 case atStart => exact ⟨(([] : List Int)), (0), (0), (by first | rfl | (simp; done) | (simp [*]; done)), (by first | rfl | (simp; done) | (simp [*]; done)), H', ⟨Nat.le_refl _⟩, ⟨by first | exact Kd.R_nil _ _ _ _ _ | exact Kd.N_nil _ _ _ _ _ | exact Kd.V_nil _ _ _ _ _ | exact Kd.Q_nil _ _ _ _ _ | exact Kd.S_nil _ _ _ _ _⟩, ⟨zb⟩⟩
 case round =>
  clear H'
  try clear c1
  try clear p2
  obtain ⟨x5_1, x6_1, x7_1, rfl, rfl, HA, HK1, HO_5, HB⟩ := hrel
  cases gk with
  | zero => exact absurd HA.out (by simp [trammelref01_Add.l0])
  | succ k1 =>
   have H := HA.out; clear HA; simp only [trammelref01_Add.l0] at H; replace H := Option.bind_eq_some_iff.mp H; obtain ⟨t317, A30, H⟩ := H; replace H : (if x7_1 < t317 then ((trammelref01_limb.f l0 x7_1).bind fun t318 => ((trammelref01_limb.f l1 x7_1).bind fun t319 => (if x5_1.length < 35184372088832 then (trammelref01_Add.l0 k1 l0 l1 (x5_1 ++ [(Int.tmod (IntKind.u64.wrap ((IntKind.u64.wrap (x6_1 + t318)) + t319)) 4294967296) % 4294967296]) (IntKind.u64.wrap (Int.tdiv (IntKind.u64.wrap ((IntKind.u64.wrap (x6_1 + t318)) + t319)) 4294967296)) (wrap64 (x7_1 + 1))) else (none)))) else (if x5_1.length < 35184372088832 then ((trammelref01_Norm.f k1 (x5_1 ++ [(x6_1) % 4294967296])).bind fun t326 => (some t326)) else (none))) = some r := H; have A3 := az A30; clear A30
   by_cases c4 : x7_1 < t317
   ·
    rw [if_pos c4] at H; have c4b0 : decide (x7_1 < t317) = true := decide_eq_true c4; clear c4; replace H := Option.bind_eq_some_iff.mp H; obtain ⟨t318, A50, H⟩ := H; replace H : ((trammelref01_limb.f l1 x7_1).bind fun t319 => (if x5_1.length < 35184372088832 then (trammelref01_Add.l0 k1 l0 l1 (x5_1 ++ [(Int.tmod (IntKind.u64.wrap ((IntKind.u64.wrap (x6_1 + t318)) + t319)) 4294967296) % 4294967296]) (IntKind.u64.wrap (Int.tdiv (IntKind.u64.wrap ((IntKind.u64.wrap (x6_1 + t318)) + t319)) 4294967296)) (wrap64 (x7_1 + 1))) else (none))) = some r := H; have A5 := az A50; clear A50; replace H := Option.bind_eq_some_iff.mp H; obtain ⟨t319, A60, H⟩ := H; replace H : (if x5_1.length < 35184372088832 then (trammelref01_Add.l0 k1 l0 l1 (x5_1 ++ [(Int.tmod (IntKind.u64.wrap ((IntKind.u64.wrap (x6_1 + t318)) + t319)) 4294967296) % 4294967296]) (IntKind.u64.wrap (Int.tdiv (IntKind.u64.wrap ((IntKind.u64.wrap (x6_1 + t318)) + t319)) 4294967296)) (wrap64 (x7_1 + 1))) else (none)) = some r := H; have A6 := az A60; clear A60
    by_cases c7 : x5_1.length < 35184372088832
    ·
     rw [if_pos c7] at H; have LMc7 := az c7; clear c7; obtain ⟨y320, hy320⟩ : ∃ y_ : List Int, y_ = (x5_1 ++ [(Int.tmod (IntKind.u64.wrap ((IntKind.u64.wrap (x6_1 + t318)) + t319)) 4294967296) % 4294967296]) := ⟨_, rfl⟩; replace H : (trammelref01_Add.l0 k1 l0 l1 y320 (IntKind.u64.wrap (Int.tdiv (IntKind.u64.wrap ((IntKind.u64.wrap (x6_1 + t318)) + t319)) 4294967296)) (wrap64 (x7_1 + 1))) = some r := by first | (rw [hy320]; with_reducible exact H) | (have H2_ := (Option.bind_some _ _).symm.trans H; rw [hy320]; with_reducible exact H2_) | (have H2_ := (Option.bind_some _ _).symm.trans H; with_reducible exact H2_) | with_reducible exact H | (rw [hy320]; exact H) | exact H
     have Ny320 := az hy320; clear hy320; have H' := az H; clear H
     go_wp2_with (first | ((with_reducible refine gate_callee (f := 69) rfl ?_); refine goesL_ (some 13) rfl rfl Try.func69 (by kernel_rfl) rfl #[.int .i64 (l0.length : Int), .int .i64 (l1.length : Int)] rfl zg ?_; (with_reducible refine (trammelref01_most.calls (l0.length : Int) (l1.length : Int) t317 _ (zh A3.out)).mono ?_); rintro e w' ⟨rfl, ⟨nd, rfl⟩⟩; refine ⟨_, rfl, ?_⟩) | ((with_reducible refine gate_callee (f := 70) rfl ?_); refine goesL_ (some 20) rfl rfl Try.func70 (by kernel_rfl) rfl #[.slice A0 l0.length c0, .int .i64 x7_1] rfl zg ?_; (with_reducible refine (trammelref01_limb.calls _ _ l0 x7_1 t318 _ ?side1 ?side2 (zh A5.out)).mono ?_); (case side1 => exact zc (Kd.C_below HR0.out zb)); (case side2 => exact HC0.out); rintro e w' ⟨rfl, ⟨nd, rfl⟩⟩; refine ⟨_, rfl, ?_⟩) | ((with_reducible refine gate_callee (f := 70) rfl ?_); refine goesL_ (some 24) rfl rfl Try.func70 (by kernel_rfl) rfl #[.slice A1 l1.length c1, .int .i64 x7_1] rfl zg ?_; (with_reducible refine (trammelref01_limb.calls _ _ l1 x7_1 t319 _ ?side1 ?side2 (zh A6.out)).mono ?_); (case side1 => exact zc (Kd.C_below HR1.out zb)); (case side2 => exact HC1.out); rintro e w' ⟨rfl, ⟨nd, rfl⟩⟩; refine ⟨_, rfl, ?_⟩) | ((with_reducible refine gate_builtin (b := .append) (xs := #[.tmp 26, .tmp 30]) rfl ?_); at_builtin; refine Kd.R_append (Kd.int .u32) (w0 := w) w.heap.size rfl (.tmp 26) (.tmp 30) 28 44 (.int .u32 0) 4 rfl Try.underlying28 info44 rfl (by decide) (by omega) u5 x5_1 ((Int.tmod (IntKind.u64.wrap ((IntKind.u64.wrap (x6_1 + t318)) + t319)) 4294967296) % 4294967296) [.int .u32 ((Int.tmod (IntKind.u64.wrap ((IntKind.u64.wrap (x6_1 + t318)) + t319)) 4294967296) % 4294967296)] (fun _ => True) (fun _ => False) rfl rfl ?aP (fun _ hk => hk.elim) ?aF ?aO ?aB ?aS ?aL ?_; (case aP => exact rfl); (case aB => exact zb); (case aF => exact (fun _ _ => trivial)); (case aO => exact (zm HO_5.out)); (case aS => exact (below_size zb)); (case aL => have := LMc7.out; omega); intro v321 w8 ho hb hg hat; rw [← Ny320.out] at ho; have n0_ := az (hb); have n1_ := az (ho); clear HB HO_5; have HB := n0_; have HO322 := n1_; clear n0_ n1_ ho hb hg hat))
     go_roundg k1
     case measure => have := HK1.out; omega
     case rel => exact ⟨(y320), (IntKind.u64.wrap (Int.tdiv (IntKind.u64.wrap ((IntKind.u64.wrap (x6_1 + t318)) + t319)) 4294967296)), (wrap64 (x7_1 + 1)), (by first | rfl | (simp; done) | (simp [*]; done)), (by first | rfl | (simp; done) | (simp [*]; done)), H', ⟨by have := HK1.out; omega⟩, ⟨by (with_reducible repeat (first | apply Kd.R_alloc | apply Kd.R_drewN | apply Kd.R_drew)); exact HO322.out⟩, ⟨zb⟩⟩
    · rw [if_neg c7] at H; exact absurd H (by simp)
   ·
    rw [if_neg c4] at H; have c4b0 : decide (x7_1 < t317) = false := decide_eq_false c4; clear c4
    by_cases c9 : x5_1.length < 35184372088832
    ·
     rw [if_pos c9] at H; have LMc9 := az c9; clear c9; obtain ⟨y323, hy323⟩ : ∃ y_ : List Int, y_ = (x5_1 ++ [(x6_1) % 4294967296]) := ⟨_, rfl⟩; replace H : ((trammelref01_Norm.f k1 y323).bind fun t326 => (some t326)) = some r := by first | (rw [hy323]; with_reducible exact H) | (have H2_ := (Option.bind_some _ _).symm.trans H; rw [hy323]; with_reducible exact H2_) | (have H2_ := (Option.bind_some _ _).symm.trans H; with_reducible exact H2_) | with_reducible exact H | (rw [hy323]; exact H) | exact H
     have Ny323 := az hy323; clear hy323; replace H := Option.bind_eq_some_iff.mp H; obtain ⟨t326, A100, H⟩ := H; replace H : (some t326) = some r := H; have A10 := az A100; clear A100; obtain rfl := Option.some.inj H
     go_wp2_with (first | ((with_reducible refine gate_callee (f := 69) rfl ?_); refine goesL_ (some 13) rfl rfl Try.func69 (by kernel_rfl) rfl #[.int .i64 (l0.length : Int), .int .i64 (l1.length : Int)] rfl zg ?_; (with_reducible refine (trammelref01_most.calls (l0.length : Int) (l1.length : Int) t317 _ (zh A3.out)).mono ?_); rintro e w' ⟨rfl, ⟨nd, rfl⟩⟩; refine ⟨_, rfl, ?_⟩) | ((with_reducible refine gate_builtin (b := .append) (xs := #[.tmp 34, .tmp 37]) rfl ?_); at_builtin; refine Kd.R_append (Kd.int .u32) (w0 := w) w.heap.size rfl (.tmp 34) (.tmp 37) 28 44 (.int .u32 0) 4 rfl Try.underlying28 info44 rfl (by decide) (by omega) u5 x5_1 ((x6_1) % 4294967296) [.int .u32 ((x6_1) % 4294967296)] (fun _ => True) (fun _ => False) rfl rfl ?aP (fun _ hk => hk.elim) ?aF ?aO ?aB ?aS ?aL ?_; (case aP => exact rfl); (case aB => exact zb); (case aF => exact (fun _ _ => trivial)); (case aO => exact (zm HO_5.out)); (case aS => exact (below_size zb)); (case aL => have := LMc9.out; omega); intro v324 w11 ho hb hg hat; rw [← Ny323.out] at ho; have n0_ := az (hb); have n1_ := az (ho); clear HB HO_5; have HB := n0_; have HO325 := n1_; clear n0_ n1_ ho hb hg hat; obtain ⟨Ao12, co12, eo12⟩ := Kd.R_slice HO325.out; subst eo12) | ((with_reducible refine gate_callee (f := 28) rfl ?_); refine goesL_ (some 40) rfl rfl Try.func28 (by kernel_rfl) rfl #[.slice Ao12 y323.length co12] rfl zg ?_; (with_reducible refine (trammelref01_Norm.calls k1 _ _ y323 t326 _ ?side1 ?side2 (zh A10.out)).mono ?_); (case side1 => exact zc (Kd.R_reads' HO325.out).2.2); (case side2 => exact (Kd.R_reads' HO325.out).2.1); rintro e w13 ⟨v327, rfl, ho0, hb⟩; refine ⟨_, rfl, ?_⟩; have n0_ := az (Kd.R_elder' (zm HO325.out) (Kd.R_base ho0) hb); have n1_ := az (Kd.R_lower (Kd.R_new' ho0 (Kd.R_lt (zm HO325.out))) (below_size zb)); have n2_ := az (below_step zb hb); clear HO325 HB; have HO325 := n0_; have HO328 := n1_; have HB := n2_; clear n0_ n1_ n2_; (try clear hb); (try clear hb2); (try clear hk); (try clear hi); (try clear ho0)))
     go_ret
     exact ⟨_, by first | rfl | (simp [errW_none, errW_some] <;> rfl) | (simp [*, errW_none, errW_some] <;> rfl), by (with_reducible repeat (first | apply Kd.R_alloc | apply Kd.R_drewN | apply Kd.R_drew)); exact Kd.R_mono HO328.out (fun _ hk => trivial), zb⟩
    · rw [if_neg c9] at H; exact absurd H (by simp)

/-! ### trammelref01_Cmp: function 51 -/
def trammelref01_Cmp.l0 : Nat → List Int → List Int → Int → Option (Int)
 | 0, _, _, _ => none
 | k + 1, x0, x1, x5 => if x5 ≥ 0 then ((trammelref01_limb.f x0 x5).bind fun t330 => ((trammelref01_limb.f x1 x5).bind fun t331 => (if t330 < t331 then (some (-1)) else (if t330 > t331 then (some 1) else (trammelref01_Cmp.l0 k x0 x1 (wrap64 (x5 - 1))))))) else (some 0)
def trammelref01_Cmp.f (k : Nat) (l0 : List Int) (l1 : List Int) : Option (Int) := (trammelref01_most.f (l0.length : Int) (l1.length : Int)).bind fun t329 => (trammelref01_Cmp.l0 k l0 l1 (wrap64 (t329 - 1)))
theorem trammelref01_Cmp.mono_l : ∀ k, (∀ y0 y1 y2, LeO (trammelref01_Cmp.l0 k y0 y1 y2) (trammelref01_Cmp.l0 (k + 1) y0 y1 y2))
 | 0 => fun _ _ _ r h => by simp [trammelref01_Cmp.l0] at h
 | k + 1 => by
  have ih0 := trammelref01_Cmp.mono_l k; ·
   intro y0 y1 y2; unfold trammelref01_Cmp.l0
   repeat' first
   | (with_reducible exact ih0 _ _ _)
   | (with_reducible exact LeO.refl _)
   | (with_reducible exact LeO.none _)
   | (with_reducible refine LeO.ite ?_ ?_)
   | (with_reducible refine LeO.bind ?_ (fun _ => ?_))
   | exact ih0 _ _ _
   | exact LeO.none _
   | refine LeO.ite ?_ ?_
   | refine LeO.bind ?_ (fun _ => ?_)
theorem trammelref01_Cmp.mono : ∀ a0 a1 k, LeO (trammelref01_Cmp.f k a0 a1) (trammelref01_Cmp.f (k + 1) a0 a1) := by
 intro a0 a1 k; have ih0 := trammelref01_Cmp.mono_l k; unfold trammelref01_Cmp.f
 repeat' first
   | (with_reducible exact ih0 _ _ _)
   | (with_reducible exact LeO.refl _)
   | (with_reducible exact LeO.none _)
   | (with_reducible refine LeO.ite ?_ ?_)
   | (with_reducible refine LeO.bind ?_ (fun _ => ?_))
   | exact ih0 _ _ _
   | exact LeO.none _
   | refine LeO.ite ?_ ?_
   | refine LeO.bind ?_ (fun _ => ?_)
set_option maxHeartbeats 8000000 in
set_option maxRecDepth 100000 in
theorem trammelref01_Cmp.calls (k : Nat) (A0 : Option Addr) (c0 : Nat) (l0 : List Int) (A1 : Option Addr) (c1 : Nat) (l1 : List Int) (r : Int) (w : World) (hr0 : Kd.C (Kd.int .u32) w A0 l0.length l0) (hc0 : l0.length ≤ c0) (hr1 : Kd.C (Kd.int .u32) w A1 l1.length l1) (hc1 : l1.length ≤ c1) (h : trammelref01_Cmp.f k l0 l1 = some r) :
  Calls Try.prog 51 #[.slice A0 l0.length c0, .slice A1 l1.length c1] w fun e w' => e = .returned (.int .i64 r) ∧ Drawn0 w w' := by
 have HR0 := az hr0; have HC0 := az hc0; clear hr0 hc0; have HR1 := az hr1; have HC1 := az hc1; clear hr1 hc1; have H : ((trammelref01_most.f (l0.length : Int) (l1.length : Int)).bind fun t329 => (trammelref01_Cmp.l0 k l0 l1 (wrap64 (t329 - 1)))) = some r := h; clear h; replace H := Option.bind_eq_some_iff.mp H; obtain ⟨t329, A30, H⟩ := H; replace H : (trammelref01_Cmp.l0 k l0 l1 (wrap64 (t329 - 1))) = some r := H; have A3 := az A30; clear A30; have H' := az H; clear H
 go_enter Try.func51, Try.ntmps51
 go_wp2_with (first | ((with_reducible refine gate_callee (f := 69) rfl ?_); refine goesL_ (some 12) rfl rfl Try.func69 (by kernel_rfl) rfl #[.int .i64 (l0.length : Int), .int .i64 (l1.length : Int)] rfl zg ?_; (with_reducible refine (trammelref01_most.calls (l0.length : Int) (l1.length : Int) t329 _ (zh A3.out)).mono ?_); rintro e w' ⟨rfl, ⟨nd, rfl⟩⟩; refine ⟨_, rfl, ?_⟩))
 go_loopg [5] k (fun kq v5 w' => ∃ (x5_1 : Int), v5 = .int .i64 x5_1 ∧ Aside0 (trammelref01_Cmp.l0 kq l0 l1 x5_1 = some r) ∧ Aside0 (kq ≤ k) ∧ Drawn0 w w')
 case atStart => exact ⟨(wrap64 (t329 - 1)), (by first | rfl | (simp; done) | (simp [*]; done)), H', ⟨Nat.le_refl _⟩, by repeat (first | exact Drawn0.refl _ | apply Drawn0.step)⟩
 case round =>
  clear H'
  try clear c1
  try clear p2
  obtain ⟨x5_1, rfl, HA, HK1, ⟨m1, rfl⟩⟩ := hrel
  cases gk with
  | zero => exact absurd HA.out (by simp [trammelref01_Cmp.l0])
  | succ k1 =>
   have H := HA.out; clear HA; simp only [trammelref01_Cmp.l0] at H
   by_cases c4 : x5_1 ≥ 0
   ·
    rw [if_pos c4] at H; have c4b0 : decide (0 ≤ x5_1) = true := decide_eq_true c4; clear c4; replace H := Option.bind_eq_some_iff.mp H; obtain ⟨t330, A50, H⟩ := H; replace H : ((trammelref01_limb.f l1 x5_1).bind fun t331 => (if t330 < t331 then (some (-1)) else (if t330 > t331 then (some 1) else (trammelref01_Cmp.l0 k1 l0 l1 (wrap64 (x5_1 - 1)))))) = some r := H; have A5 := az A50; clear A50; replace H := Option.bind_eq_some_iff.mp H; obtain ⟨t331, A60, H⟩ := H; replace H : (if t330 < t331 then (some (-1)) else (if t330 > t331 then (some 1) else (trammelref01_Cmp.l0 k1 l0 l1 (wrap64 (x5_1 - 1))))) = some r := H; have A6 := az A60; clear A60
    by_cases c7 : t330 < t331
    ·
     rw [if_pos c7] at H; have c7b0 : decide (t330 < t331) = true := decide_eq_true c7; clear c7; obtain rfl := Option.some.inj H
     go_wp2_with (first | ((with_reducible refine gate_callee (f := 70) rfl ?_); refine goesL_ (some 20) rfl rfl Try.func70 (by kernel_rfl) rfl #[.slice A0 l0.length c0, .int .i64 x5_1] rfl zg ?_; (with_reducible refine (trammelref01_limb.calls _ _ l0 x5_1 t330 _ ?side1 ?side2 (zh A5.out)).mono ?_); (case side1 => exact zc HR0.out); (case side2 => exact HC0.out); rintro e w' ⟨rfl, ⟨nd, rfl⟩⟩; refine ⟨_, rfl, ?_⟩) | ((with_reducible refine gate_callee (f := 70) rfl ?_); refine goesL_ (some 23) rfl rfl Try.func70 (by kernel_rfl) rfl #[.slice A1 l1.length c1, .int .i64 x5_1] rfl zg ?_; (with_reducible refine (trammelref01_limb.calls _ _ l1 x5_1 t331 _ ?side1 ?side2 (zh A6.out)).mono ?_); (case side1 => exact zc HR1.out); (case side2 => exact HC1.out); rintro e w' ⟨rfl, ⟨nd, rfl⟩⟩; refine ⟨_, rfl, ?_⟩))
     go_ret
     exact ⟨by first | rfl | (simp; done) | (simp [*]; done), by repeat (first | exact Drawn0.refl _ | apply Drawn0.step)⟩
    ·
     rw [if_neg c7] at H; have c7b0 : decide (t330 < t331) = false := decide_eq_false c7; clear c7
     by_cases c8 : t330 > t331
     ·
      rw [if_pos c8] at H; have c8b0 : decide (t331 < t330) = true := decide_eq_true c8; clear c8; obtain rfl := Option.some.inj H
      go_wp2_with (first | ((with_reducible refine gate_callee (f := 70) rfl ?_); refine goesL_ (some 20) rfl rfl Try.func70 (by kernel_rfl) rfl #[.slice A0 l0.length c0, .int .i64 x5_1] rfl zg ?_; (with_reducible refine (trammelref01_limb.calls _ _ l0 x5_1 t330 _ ?side1 ?side2 (zh A5.out)).mono ?_); (case side1 => exact zc HR0.out); (case side2 => exact HC0.out); rintro e w' ⟨rfl, ⟨nd, rfl⟩⟩; refine ⟨_, rfl, ?_⟩) | ((with_reducible refine gate_callee (f := 70) rfl ?_); refine goesL_ (some 23) rfl rfl Try.func70 (by kernel_rfl) rfl #[.slice A1 l1.length c1, .int .i64 x5_1] rfl zg ?_; (with_reducible refine (trammelref01_limb.calls _ _ l1 x5_1 t331 _ ?side1 ?side2 (zh A6.out)).mono ?_); (case side1 => exact zc HR1.out); (case side2 => exact HC1.out); rintro e w' ⟨rfl, ⟨nd, rfl⟩⟩; refine ⟨_, rfl, ?_⟩))
      go_ret
      exact ⟨by first | rfl | (simp; done) | (simp [*]; done), by repeat (first | exact Drawn0.refl _ | apply Drawn0.step)⟩
     ·
      rw [if_neg c8] at H; have c8b0 : decide (t331 < t330) = false := decide_eq_false c8; clear c8; have H' := az H; clear H
      go_wp2_with (first | ((with_reducible refine gate_callee (f := 70) rfl ?_); refine goesL_ (some 20) rfl rfl Try.func70 (by kernel_rfl) rfl #[.slice A0 l0.length c0, .int .i64 x5_1] rfl zg ?_; (with_reducible refine (trammelref01_limb.calls _ _ l0 x5_1 t330 _ ?side1 ?side2 (zh A5.out)).mono ?_); (case side1 => exact zc HR0.out); (case side2 => exact HC0.out); rintro e w' ⟨rfl, ⟨nd, rfl⟩⟩; refine ⟨_, rfl, ?_⟩) | ((with_reducible refine gate_callee (f := 70) rfl ?_); refine goesL_ (some 23) rfl rfl Try.func70 (by kernel_rfl) rfl #[.slice A1 l1.length c1, .int .i64 x5_1] rfl zg ?_; (with_reducible refine (trammelref01_limb.calls _ _ l1 x5_1 t331 _ ?side1 ?side2 (zh A6.out)).mono ?_); (case side1 => exact zc HR1.out); (case side2 => exact HC1.out); rintro e w' ⟨rfl, ⟨nd, rfl⟩⟩; refine ⟨_, rfl, ?_⟩))
      go_roundg k1
      case measure => have := HK1.out; omega
      case rel => exact ⟨(wrap64 (x5_1 - 1)), (by first | rfl | (simp; done) | (simp [*]; done)), H', ⟨by have := HK1.out; omega⟩, by repeat (first | exact Drawn0.refl _ | apply Drawn0.step)⟩
   ·
    rw [if_neg c4] at H; have c4b0 : decide (0 ≤ x5_1) = false := decide_eq_false c4; clear c4; obtain rfl := Option.some.inj H
    go_wp2
    go_ret
    exact ⟨by first | rfl | (simp; done) | (simp [*]; done), by repeat (first | exact Drawn0.refl _ | apply Drawn0.step)⟩

end Go.Proofs.Ytebfblpoeeiagaa.QL
