/- Printed by a program of this session off the program's translation: what the functions answer, and that they do. -/
-- squeezed
import Derived.Test.YtebfblpoeeiagaaQL0
import Derived.Test.YtebfblpoeeiagaaQL2
namespace Go.Proofs.Ytebfblpoeeiagaa.QL
open Go.RowKit Go.Proofs.YtebfblpoeeiagaaW.PrintWords Go.Proofs.YtebfblpoeeiagaaW.PrintLast Go.Proofs.YtebfblpoeeiagaaW.PrintMore
attribute [local go_sem] max2_int min2_int max_two min_two max_three min_three max_four min_four   -- for this text's walks alone
set_option linter.unusedVariables false
set_option linter.unusedSimpArgs false

/-! ### mat_dot: function 55 -/
def mat_dot.l0 : Nat → List (S30) → List (S30) → Int → Int → Bool → List Int → Option (Bool × List Int)
 | 0, _, _, _, _, _, _ => none
 | k + 1, x0, x1, x8, x9, x115000, x115001 => if x9 < x8 then (if 0 ≤ x9 then (if x9 < (x0.length : Int) then (if x9 < (x1.length : Int) then ((zint_Mul.f ((rd_T30 x0 x9).f0) ((rd_T30 x0 x9).f1) ((rd_T30 x1 x9).f0) ((rd_T30 x1 x9).f1)).bind fun bt117 => ((zint_Add.f x115000 x115001 bt117.1 bt117.2).bind fun bt121 => (mat_dot.l0 k x0 x1 x8 (wrap64 (x9 + 1)) bt121.1 bt121.2))) else (none)) else (none)) else (none)) else (some (x115000, x115001))
def mat_dot.f (k : Nat) (l0 : List (S30)) (l1 : List (S30)) : Option (Bool × List Int) := mat_dot.l0 k l0 l1 (l0.length : Int) 0 false ([] : List Int)
theorem mat_dot.mono_l : ∀ k, (∀ y0 y1 y2 y3 y4 y5, LeO (mat_dot.l0 k y0 y1 y2 y3 y4 y5) (mat_dot.l0 (k + 1) y0 y1 y2 y3 y4 y5))
 | 0 => fun _ _ _ _ _ _ r h => by simp [mat_dot.l0] at h
 | k + 1 => by
  have ih0 := mat_dot.mono_l k; ·
   intro y0 y1 y2 y3 y4 y5; unfold mat_dot.l0
   repeat' first
   | (with_reducible exact ih0 _ _ _ _ _ _)
   | (with_reducible exact LeO.refl _)
   | (with_reducible exact LeO.none _)
   | (with_reducible refine LeO.ite ?_ ?_)
   | (with_reducible refine LeO.bind ?_ (fun _ => ?_))
   | exact ih0 _ _ _ _ _ _
   | exact LeO.none _
   | refine LeO.ite ?_ ?_
   | refine LeO.bind ?_ (fun _ => ?_)
theorem mat_dot.mono : ∀ a0 a1 k, LeO (mat_dot.f k a0 a1) (mat_dot.f (k + 1) a0 a1) := by
 intro a0 a1 k; have ih0 := mat_dot.mono_l k; unfold mat_dot.f
 repeat' first
   | (with_reducible exact ih0 _ _ _ _ _ _)
   | (with_reducible exact LeO.refl _)
   | (with_reducible exact LeO.none _)
   | (with_reducible refine LeO.ite ?_ ?_)
   | (with_reducible refine LeO.bind ?_ (fun _ => ?_))
   | exact ih0 _ _ _ _ _ _
   | exact LeO.none _
   | refine LeO.ite ?_ ?_
   | refine LeO.bind ?_ (fun _ => ?_)
def mat_dot.T5 : Bool × List (List Nat × List Nat) := (true, [([], []), ([], []), ([], []), ([1, 2], [1, 2]), ([3], [3]), ([], []), ([], []), ([5, 6], [5, 6]), ([7], [7]), ([4, 8], [4, 8]), ([0, 9, 9], [0, 9]), ([10, 10, 0, 1, 2, 3, 4, 5, 6, 7, 8, 9, 10], [10])])
def mat_dot.B5 : List Nat := [0, 0, 0, 6, 14, 0, 0, 96, 224, 510, 1023, 2047]
theorem mat_dot.tab5 : rtab .any (opsOf Try.f55 5) = mat_dot.T5 := by kernel_rfl
theorem mat_dot.bits5 : waitsOk mat_dot.T5.2 mat_dot.B5 = true := by kernel_rfl
set_option maxHeartbeats 8000000 in
set_option maxRecDepth 100000 in
theorem mat_dot.calls (k : Nat) (A0 : Option Addr) (c0 : Nat) (l0 : List (S30)) (A1 : Option Addr) (c1 : Nat) (l1 : List (S30)) (r1 : Bool) (r2 : List Int) (w : World) (hr0 : Kd.C k30 w A0 l0.length l0) (hc0 : l0.length ≤ c0) (hr1 : Kd.C k30 w A1 l1.length l1) (hc1 : l1.length ≤ c1) (h : mat_dot.f k l0 l1 = some (r1, r2)) :
  Calls Try.prog 55 #[.slice A0 l0.length c0, .slice A1 l1.length c1] w fun e w' => ∃ v1_ : Value, e = .returned (.agg #[.bool r1, v1_]) ∧ Kd.R (Kd.int .u32) 44 w' w.heap.size (fun _ => True) v1_ r2 ∧ Below w.heap.size w w' := by
 have hu30 := Try.underlying30; have HR0 := az hr0; have HC0 := az hc0; clear hr0 hc0; have HR1 := az hr1; have HC1 := az hc1; clear hr1 hc1; have HB := az (Below.refl w.heap.size w); have H : (mat_dot.l0 k l0 l1 (l0.length : Int) 0 false ([] : List Int)) = some (r1, r2) := h; clear h; have H' := az H; clear H
 go_enter Try.func55, Try.ntmps55
 go_wp2_with (first | ((with_reducible refine gate_dst (N := 4) rfl ?_); refine box_event ?hg (N := 4) ?hd (cs := #[.bool false, .slice none 0 0]) (t := 30) ?hr ?_; (case hd => rfl); (case hg => rfl); (case hr => first | (go_simp; done) | (go_simp; rfl)); intro gb113 hg w3 hbox hb; have n0_ := az (below_step zb hb); have n1_ := az (hbox); have n2_ := az ((by rw [hg]; exact (below_size zb) : w.heap.size ≤ gb113)); have n3_ := az ((by rw [hg]; exact (below_size zb) : w.heap.size ≤ gb113)); clear HB; have HB := n0_; have BK113 := n1_; have GW113 := n2_; have GE113 := n3_; clear n0_ n1_ n2_ n3_ hb hbox hg) | ((with_reducible refine gate_dst (N := 5) rfl ?_); refine box_event ?hg (N := 5) ?hd (cs := #[.bool false, .slice none 0 0]) (t := 30) ?hr ?_; (case hd => rfl); (case hg => rfl); (case hr => first | (go_simp; done) | (go_simp; rfl)); intro gb114 hg w4 hbox hb; have n0_ := az (blk_below (g := gb113) (o := .cells #[.bool false, .slice none 0 0] 30 (0, 0)) (zm BK113.out) hb); have n1_ := az (below_step zb hb); have n2_ := az (hbox); have n3_ := az ((by rw [hg]; exact (below_size zb) : w.heap.size ≤ gb114)); have n4_ := az ((by rw [hg]; exact (below_size zb) : w.heap.size ≤ gb114)); have n5_ := az ((by rw [hg]; exact Nat.ne_of_lt (blk_lt (g := gb113) (o := .cells #[.bool false, .slice none 0 0] 30 (0, 0)) (zm BK113.out)) : gb113 ≠ gb114)); have n6_ := az ((by rw [hg]; exact Nat.ne_of_gt (blk_lt (g := gb113) (o := .cells #[.bool false, .slice none 0 0] 30 (0, 0)) (zm BK113.out)) : gb114 ≠ gb113)); clear BK113 HB; have BK113 := n0_; have HB := n1_; have BK114 := n2_; have GW114 := n3_; have GE114 := n4_; have NB113_114 := n5_; have NB114_113 := n6_; clear n0_ n1_ n2_ n3_ n4_ n5_ n6_ hb hbox hg))
 go_loopg [9] k (fun kq v9 w' => ∃ (x9_1 : Int) (x115000_1 : Bool) (x115001_1 : List Int) (u115001 : Value), v9 = .int .i64 x9_1 ∧ Aside0 (mat_dot.l0 kq l0 l1 (l0.length : Int) x9_1 x115000_1 x115001_1 = some (r1, r2)) ∧ Aside0 (kq ≤ k) ∧ Aside0 (Kd.R (Kd.int .u32) 44 w' w.heap.size (fun _ => True) u115001 x115001_1) ∧ Aside0 (w'.heap[gb113]? = some (.cells #[.bool false, (.slice none 0 0)] 30 (0, 0))) ∧ Aside0 (w'.heap[gb114]? = some (.cells #[.bool x115000_1, u115001] 30 (0, 0))) ∧ Aside0 (Below w.heap.size w w'))
 case atStart => exact ⟨(0), (false), (([] : List Int)), (.slice none 0 0), (by first | rfl | (simp; done) | (simp [*]; done)), H', ⟨Nat.le_refl _⟩, ⟨by first | exact Kd.R_nil _ _ _ _ _ | exact Kd.N_nil _ _ _ _ _ | exact Kd.V_nil _ _ _ _ _ | exact Kd.Q_nil _ _ _ _ _ | exact Kd.S_nil _ _ _ _ _⟩, ⟨by (with_reducible repeat (first | refine blk_drewN ?_ _ | refine blk_drew ?_ | refine blk_alloc ?_ _)); exact BK113.out⟩, ⟨by (with_reducible repeat (first | refine blk_drewN ?_ _ | refine blk_drew ?_ | refine blk_alloc ?_ _)); exact BK114.out⟩, ⟨zb⟩⟩
 case round =>
  clear H'
  try clear c1
  try clear p2
  obtain ⟨x9_1, x115000_1, x115001_1, u115001, rfl, HA, HK1, HO_115001, BK113, BK114, HB⟩ := hrel
  cases gk with
  | zero => exact absurd HA.out (by simp [mat_dot.l0])
  | succ k1 =>
   have H := HA.out; clear HA; simp only [mat_dot.l0] at H
   by_cases c5 : x9_1 < (l0.length : Int)
   ·
    rw [if_pos c5] at H; have c5b0 : decide (x9_1 < (l0.length : Int)) = true := decide_eq_true c5; clear c5
    by_cases c6 : 0 ≤ x9_1
    ·
     rw [if_pos c6] at H; have c6b0 : decide (0 ≤ x9_1) = true := decide_eq_true c6; clear c6
     by_cases c7 : x9_1 < (l0.length : Int)
     ·
      rw [if_pos c7] at H; have c7b0 : decide (x9_1 < (l0.length : Int)) = true := decide_eq_true c7; clear c7
      by_cases c8 : x9_1 < (l1.length : Int)
      ·
       rw [if_pos c8] at H; have c8b0 : decide (x9_1 < (l1.length : Int)) = true := decide_eq_true c8; clear c8; replace H := Option.bind_eq_some_iff.mp H; obtain ⟨⟨t117, t118⟩, A90, H⟩ := H; replace H : ((zint_Add.f x115000_1 x115001_1 t117 t118).bind fun bt121 => (mat_dot.l0 k1 l0 l1 (l0.length : Int) (wrap64 (x9_1 + 1)) bt121.1 bt121.2)) = some (r1, r2) := H; have A9 := az A90; clear A90; replace H := Option.bind_eq_some_iff.mp H; obtain ⟨⟨t121, t122⟩, A100, H⟩ := H; replace H : (mat_dot.l0 k1 l0 l1 (l0.length : Int) (wrap64 (x9_1 + 1)) t121 t122) = some (r1, r2) := H; have A10 := az A100; clear A100; have H' := az H; clear H
       try go_wp2
       have n0_ := az (Kd.R_drew HO_115001.out); have n1_ := az (blk_drew BK113.out); have n2_ := az (blk_drew BK114.out); have n3_ := az (below_drew1 HB.out); clear HO_115001; clear BK113; clear BK114; clear HB; have HO_115001 := n0_; have BK113 := n1_; have BK114 := n2_; have HB := n3_; clear n0_ n1_ n2_ n3_; have p115 : 0 ≤ (x9_1 : Int) := of_decide_eq_true (by first | (with_reducible assumption) | assumption); have q115 : x9_1 < (l0.length : Int) := of_decide_eq_true (by first | (with_reducible assumption) | assumption); obtain ⟨ad115, A115_1, c115_1, e115, hx115_0, hx115_1, hl115_1, hi115_1⟩ := at_T30 HR0.out x9_1 p115 q115; have hw115_1 := hx115_1; have hw115_0 := hx115_0
       cases e115
       replace hx115_0 := (HB.out.cell (World.block_lt_of_cell? w _ hx115_0)).trans hx115_0; replace hx115_1 := (HB.out.cell (World.block_lt_of_cell? w _ hx115_1)).trans hx115_1; have HR115_1 := az hi115_1; have HC115_1 := az hl115_1; clear hi115_1 hl115_1; replace p115 := eq_true p115; replace q115 := eq_true q115; have p116 : 0 ≤ (x9_1 : Int) := of_decide_eq_true (by first | (with_reducible assumption) | assumption); have q116 : x9_1 < (l1.length : Int) := of_decide_eq_true (by first | (with_reducible assumption) | assumption); obtain ⟨ad116, A116_1, c116_1, e116, hx116_0, hx116_1, hl116_1, hi116_1⟩ := at_T30 HR1.out x9_1 p116 q116; have hw116_1 := hx116_1; have hw116_0 := hx116_0
       cases e116
       replace hx116_0 := (HB.out.cell (World.block_lt_of_cell? w _ hx116_0)).trans hx116_0; replace hx116_1 := (HB.out.cell (World.block_lt_of_cell? w _ hx116_1)).trans hx116_1; have HR116_1 := az hi116_1; have HC116_1 := az hl116_1; clear hi116_1 hl116_1; replace p116 := eq_true p116; replace q116 := eq_true q116; refine start_ (n := 12) (S := fun w' => w'.cell? ⟨gb114, 0, none⟩ = some (.bool x115000_1) ∧ w'.cell? ⟨gb114, 1, none⟩ = some (u115001) ∧ w'.cell? (ad115.add ((x9_1).toNat * 2)) = some (.bool ((rd_T30 l0 x9_1).f0)) ∧ w'.cell? ⟨(ad115.add ((x9_1).toNat * 2)).block, (ad115.add ((x9_1).toNat * 2)).off + 1, none⟩ = some (.slice A115_1 ((rd_T30 l0 x9_1).f1).length c115_1) ∧ w'.cell? (ad116.add ((x9_1).toNat * 2)) = some (.bool ((rd_T30 l1 x9_1).f0)) ∧ w'.cell? ⟨(ad116.add ((x9_1).toNat * 2)).block, (ad116.add ((x9_1).toNat * 2)).off + 1, none⟩ = some (.slice A116_1 ((rd_T30 l1 x9_1).f1).length c116_1)) (ds := [11]) #[false, false, false, false, false, false, false, false, false, false, false, false] (by kernel_rfl) rfl rfl ⟨(blk_cell BK114.out 0).trans rfl, (blk_cell BK114.out 1).trans rfl, ((HB.out.cell (World.block_lt_of_cell? w _ hw115_0)).trans hw115_0), ((HB.out.cell (World.block_lt_of_cell? w _ hw115_1)).trans hw115_1), ((HB.out.cell (World.block_lt_of_cell? w _ hw116_0)).trans hw116_0), ((HB.out.cell (World.block_lt_of_cell? w _ hw116_1)).trans hw116_1)⟩ (fun hHeld => ?_); refine with_tabW mat_dot.tab5 mat_dot.bits5 (fun HT_ HW_ => ?_)
       generalize wr.drew = w11 at HO_115001 BK113 BK114 HB HR115_1 HR116_1 hx115_0 hx115_1 hx116_0 hx116_1 hHeld ⊢
       refine pure_ (i := 1) (N := some 13) (v := ?_) (a' := ?_) #[false, true, false, false, false, false, false, false, false, false, false, false] rfl rfl (any_of HT_.out (by kernel_rfl)) (fun _ _ _ h => h) (Or.inl ⟨by rfl, ?_⟩) ?_ ?_; rotate_left; · intro w'; go_simp; (with_reducible rfl)
       rotate_left; · exact zp
       refine pure_ (i := 2) (N := some 14) (v := ?_) (a' := ?_) #[false, true, true, false, false, false, false, false, false, false, false, false] rfl rfl (any_of HT_.out (by kernel_rfl)) (fun _ _ _ h => h) (Or.inl ⟨by rfl, ?_⟩) ?_ ?_; rotate_left; · intro w'; go_simp; (with_reducible rfl)
       rotate_left; · exact zp
       refine pure_ (i := 3) (N := some 15) (v := ?_) (a' := ?_) #[false, true, true, true, false, false, false, false, false, false, false, false] rfl rfl (any_of HT_.out (by kernel_rfl)) (fun _ _ _ h => h) (Or.inl ⟨by rfl, ?_⟩) ?_ ?_; rotate_left; · intro w'; go_simp; (with_reducible rfl)
       rotate_left; · exact zp
       refine pure_ (i := 5) (N := some 17) (v := ?_) (a' := ?_) #[false, true, true, true, false, true, false, false, false, false, false, false] rfl rfl (any_of HT_.out (by kernel_rfl)) (fun _ _ _ h => h) (Or.inl ⟨by rfl, ?_⟩) ?_ ?_; rotate_left; · intro w'; go_simp; (with_reducible rfl)
       rotate_left; · exact zp
       refine pure_ (i := 6) (N := some 18) (v := ?_) (a' := ?_) #[false, true, true, true, false, true, true, false, false, false, false, false] rfl rfl (any_of HT_.out (by kernel_rfl)) (fun _ _ _ h => h) (Or.inl ⟨by rfl, ?_⟩) ?_ ?_; rotate_left; · intro w'; go_simp; (with_reducible rfl)
       rotate_left; · exact zp
       refine pure_ (i := 7) (N := some 19) (v := ?_) (a' := ?_) #[false, true, true, true, false, true, true, true, false, false, false, false] rfl rfl (any_of HT_.out (by kernel_rfl)) (fun _ _ _ h => h) (Or.inl ⟨by rfl, ?_⟩) ?_ ?_; rotate_left; · intro w'; go_simp; (with_reducible rfl)
       rotate_left; · exact zp
       refine take_ (i := 0) (N := some 12) (v := ?_) (a' := ?_) #[true, true, true, true, false, true, true, true, false, false, false, false] rfl rfl (take_ofW HT_.out HW_.out (by kernel_rfl)) (fun _ _ _ h => h) (Or.inl ⟨by rfl, ?_⟩) hHeld ?_ ?_; rotate_left; · rintro w' ⟨s0, s1, s2, s3, s4, s5⟩; go_simp; (with_reducible rfl)
       rotate_left; · exact zp
       refine take_ (i := 4) (N := some 16) (v := ?_) (a' := ?_) #[true, true, true, true, true, true, true, true, false, false, false, false] rfl rfl (take_ofW HT_.out HW_.out (by kernel_rfl)) (fun _ _ _ h => h) (Or.inl ⟨by rfl, ?_⟩) hHeld ?_ ?_; rotate_left; · rintro w' ⟨s0, s1, s2, s3, s4, s5⟩; go_simp; (with_reducible rfl)
       rotate_left; · exact zp
       refine take_ (i := 8) (N := some 20) (v := ?_) (a' := ?_) #[true, true, true, true, true, true, true, true, true, false, false, false] rfl rfl (take_ofW HT_.out HW_.out (by kernel_rfl)) (fun _ _ _ h => h) (Or.inl ⟨by rfl, ?_⟩) hHeld ?_ ?_; rotate_left; · rintro w' ⟨s0, s1, s2, s3, s4, s5⟩; go_simp; (with_reducible rfl)
       rotate_left; · exact zp
       refine one_ (i := 9) (N := some 21) #[true, true, true, true, true, true, true, true, true, true, false, false] rfl rfl (one_of HT_.out (by kernel_rfl)) (by decide) (fun K hK => ?_); refine goes_ Try.func36 (by kernel_rfl) rfl #[.agg #[.bool ((rd_T30 l0 x9_1).f0), .slice A115_1 ((rd_T30 l0 x9_1).f1).length c115_1], .agg #[.bool ((rd_T30 l1 x9_1).f0), .slice A116_1 ((rd_T30 l1 x9_1).f1).length c116_1]] (by rfl) rfl rfl zg ?_; (with_reducible refine (zint_Mul.calls ((rd_T30 l0 x9_1).f0) _ _ ((rd_T30 l0 x9_1).f1) ((rd_T30 l1 x9_1).f0) _ _ ((rd_T30 l1 x9_1).f1) t117 t118 _ ?side1 ?side2 ?side3 ?side4 (zh A9.out)).mono ?_)
       (case side1 => exact zc (Kd.C_below HR115_1.out HB.out))
       (case side2 => exact HC115_1.out)
       (case side3 => exact zc (Kd.C_below HR116_1.out HB.out))
       (case side4 => exact HC116_1.out)
       rintro e w12 ⟨v119, rfl, ho0, hb⟩; refine ⟨_, rfl, ?_⟩; have n0_ := az (Kd.R_elder' (zm HO_115001.out) (Kd.R_base ho0) hb); have n1_ := az (Kd.R_lower (Kd.R_new' ho0 (Kd.R_lt (zm HO_115001.out))) (below_size zb)); have n2_ := az (blk_below (g := gb113) (o := .cells #[.bool false, .slice none 0 0] 30 (0, 0)) (zm BK113.out) hb); have n3_ := az (blk_below (g := gb114) (o := .cells #[.bool x115000_1, u115001] 30 (0, 0)) (zm BK114.out) hb); have n4_ := az (below_step zb hb); clear HO_115001; clear BK113; clear BK114; clear HB; have HO_115001 := n0_; have HO120 := n1_; have BK113 := n2_; have BK114 := n3_; have HB := n4_; clear n0_ n1_ n2_ n3_ n4_
       (try clear hb)
       (try clear hb2)
       (try clear hk)
       (try clear hi)
       (try clear ho0)
       obtain ⟨Ao13, co13, eo13⟩ := Kd.R_slice HO_115001.out
       (first | subst eo13 | (injection eo13 with f1_ f2_ f3_; have f4_ := f1_.symm; have f5_ := f3_.symm; clear f1_ f2_ f3_; subst f4_; subst f5_))
       obtain ⟨Ao14, co14, eo14⟩ := Kd.R_slice HO120.out
       (first | subst eo14 | (injection eo14 with f1_ f2_ f3_; have f4_ := f1_.symm; have f5_ := f3_.symm; clear f1_ f2_ f3_; subst f4_; subst f5_))
       refine hK.out _ _ ⟨(blk_cell BK114.out 0).trans rfl, (blk_cell BK114.out 1).trans rfl, ((HB.out.cell (World.block_lt_of_cell? w _ hw115_0)).trans hw115_0), ((HB.out.cell (World.block_lt_of_cell? w _ hw115_1)).trans hw115_1), ((HB.out.cell (World.block_lt_of_cell? w _ hw116_0)).trans hw116_0), ((HB.out.cell (World.block_lt_of_cell? w _ hw116_1)).trans hw116_1)⟩ (fun hHeld => ?_); clear hK K; refine norm_ (a' := ?_) ?_ ?_; rotate_left; ·
        show Act.put _ (some 21) _ = _
        exact zp
       refine one_ (i := 10) (N := some 22) #[true, true, true, true, true, true, true, true, true, true, true, false] rfl rfl (one_of HT_.out (by kernel_rfl)) (by decide) (fun K hK => ?_); refine goes_ Try.func42 (by kernel_rfl) rfl #[.agg #[.bool x115000_1, .slice Ao13 x115001_1.length co13], .agg #[.bool t117, .slice Ao14 t118.length co14]] (by rfl) rfl rfl zg ?_; (with_reducible refine (zint_Add.calls x115000_1 _ _ x115001_1 t117 _ _ t118 t121 t122 _ ?side1 ?side2 ?side3 ?side4 (zh A10.out)).mono ?_)
       (case side1 => exact zc (Kd.R_reads' HO_115001.out).2.2)
       (case side2 => exact (Kd.R_reads' HO_115001.out).2.1)
       (case side3 => exact zc (Kd.R_reads' HO120.out).2.2)
       (case side4 => exact (Kd.R_reads' HO120.out).2.1)
       rintro e w15 ⟨v123, rfl, ho0, hb⟩; refine ⟨_, rfl, ?_⟩; have n0_ := az (Kd.R_elder' (zm HO_115001.out) (Kd.R_base ho0) hb); have n1_ := az (Kd.R_elder' (zm HO120.out) (Kd.R_base ho0) hb); have n2_ := az (Kd.R_lower (Kd.R_new' (Kd.R_new' ho0 (Kd.R_lt (zm HO_115001.out))) (Kd.R_lt (zm HO120.out))) (below_size zb)); have n3_ := az (blk_below (g := gb113) (o := .cells #[.bool false, .slice none 0 0] 30 (0, 0)) (zm BK113.out) hb); have n4_ := az (blk_below (g := gb114) (o := .cells #[.bool x115000_1, .slice Ao13 x115001_1.length co13] 30 (0, 0)) (zm BK114.out) hb); have n5_ := az (below_step zb hb); clear HO_115001; clear HO120; clear BK113; clear BK114; clear HB; have HO_115001 := n0_; have HO120 := n1_; have HO124 := n2_; have BK113 := n3_; have BK114 := n4_; have HB := n5_; clear n0_ n1_ n2_ n3_ n4_ n5_
       (try clear hb)
       (try clear hb2)
       (try clear hk)
       (try clear hi)
       (try clear ho0)
       obtain ⟨Ao17, co17, eo17⟩ := Kd.R_slice HO124.out
       (first | subst eo17 | (injection eo17 with f1_ f2_ f3_; have f4_ := f1_.symm; have f5_ := f3_.symm; clear f1_ f2_ f3_; subst f4_; subst f5_))
       refine hK.out _ _ ⟨(blk_cell BK114.out 0).trans rfl, (blk_cell BK114.out 1).trans rfl, ((HB.out.cell (World.block_lt_of_cell? w _ hw115_0)).trans hw115_0), ((HB.out.cell (World.block_lt_of_cell? w _ hw115_1)).trans hw115_1), ((HB.out.cell (World.block_lt_of_cell? w _ hw116_0)).trans hw116_0), ((HB.out.cell (World.block_lt_of_cell? w _ hw116_1)).trans hw116_1)⟩ (fun hHeld => ?_); clear hK K; refine norm_ (a' := ?_) ?_ ?_; rotate_left; ·
        show Act.put _ (some 22) _ = _
        exact zp
       refine last_ (i := 11) (N := none) #[true, true, true, true, true, true, true, true, true, true, true, true] rfl rfl (one_of HT_.out (by kernel_rfl)) (by decide) (fun K hK => ?_); have hs16 : w15.cell? ⟨gb114, 0, none⟩ = some (.bool x115000_1) := (blk_cell BK114.out 0).trans rfl; have hfs16 := blk_frozen BK114.out 0; have hns16_0 := NB113_114.out; have hms16_0 := NB114_113.out; have hs18 : w15.cell? ⟨gb114, 1, none⟩ = some (.slice Ao13 x115001_1.length co13) := (blk_cell BK114.out 1).trans rfl; have hfs18 := blk_frozen BK114.out 1; have hns18_0 := NB113_114.out; have hms18_0 := NB114_113.out; refine skip_ (w1 := ?_) (by rfl) rfl ?_ ?_; rotate_left; · go_simp; rfl
       refine hK.out _ _ ?_; clear hK K; refine done_ (done_of HT_.out (by kernel_rfl)) ?_
       try go_wp2
       go_roundg k1
       case measure => have := HK1.out; omega
       case rel => exact ⟨(wrap64 (x9_1 + 1)), (t121), (t122), (.slice Ao17 t122.length co17), (by first | rfl | (simp; done) | (simp [*]; done)), H', ⟨by have := HK1.out; omega⟩, ⟨by (with_reducible repeat (first | apply Kd.R_alloc | apply Kd.R_drewN | apply Kd.R_drew)); exact Kd.R_mono (Kd.R_far (p := ⟨gb114, 1, none⟩) (Kd.R_far (p := ⟨gb114, 0, none⟩) (Kd.R_types HO124.out BK114.out (by decide)) (fun _ hk => hk.2) (.bool t121)) (fun _ hk => hk.2) (.slice Ao17 t122.length co17)) (fun _ hk => trivial)⟩, ⟨by (with_reducible repeat (first | refine blk_drewN ?_ _ | refine blk_drew ?_ | refine blk_alloc ?_ _)); refine blk_far ?_ NB113_114.out _; (with_reducible repeat (first | refine blk_drewN ?_ _ | refine blk_drew ?_ | refine blk_alloc ?_ _)); refine blk_far ?_ NB113_114.out _; (with_reducible repeat (first | refine blk_drewN ?_ _ | refine blk_drew ?_ | refine blk_alloc ?_ _)); exact BK113.out⟩, ⟨by (with_reducible repeat (first | refine blk_drewN ?_ _ | refine blk_drew ?_ | refine blk_alloc ?_ _)); refine blk_put (cs := #[.bool t121, .slice Ao13 x115001_1.length co13]) ?_ 1 _ rfl; (with_reducible repeat (first | refine blk_drewN ?_ _ | refine blk_drew ?_ | refine blk_alloc ?_ _)); refine blk_put (cs := #[.bool x115000_1, .slice Ao13 x115001_1.length co13]) ?_ 0 _ rfl; (with_reducible repeat (first | refine blk_drewN ?_ _ | refine blk_drew ?_ | refine blk_alloc ?_ _)); exact BK114.out⟩, ⟨zb⟩⟩
      · rw [if_neg c8] at H; exact absurd H (by simp)
     · rw [if_neg c7] at H; exact absurd H (by simp)
    · rw [if_neg c6] at H; exact absurd H (by simp)
   ·
    rw [if_neg c5] at H; have c5b0 : decide (x9_1 < (l0.length : Int)) = false := decide_eq_false c5; clear c5; simp only [Option.some.injEq, Prod.mk.injEq] at H; obtain ⟨rfl, rfl⟩ := H; have hnb19 := NB114_113.out; have hnc19 := NB113_114.out; have hcz20_0 : wr.cell? ⟨gb114, 0, none⟩ = some (.bool x115000_1) := (blk_cell BK114.out 0).trans rfl; have hcz20_1 : wr.cell? ⟨gb114, 1, none⟩ = some (u115001) := (blk_cell BK114.out 1).trans rfl; have hfz20_0 := blk_frozen BK114.out 0; have hfz20_1 := blk_frozen BK114.out 1; have hcz21_0 : wr.cell? ⟨gb113, 0, none⟩ = some (.bool false) := (blk_cell BK113.out 0).trans rfl; have hcz21_1 : wr.cell? ⟨gb113, 1, none⟩ = some (.slice none 0 0) := (blk_cell BK113.out 1).trans rfl; have hfz21_0 := blk_frozen BK113.out 0; have hfz21_1 := blk_frozen BK113.out 1; obtain ⟨Ao22, co22, eo22⟩ := Kd.R_slice HO_115001.out; subst eo22
    go_wp2
    refine bodyPost_ret (results_cell_row rfl _ _ gb113 30 #[.bool x115000_1, .slice Ao22 x115001_1.length co22] (0, 0) _ rfl (by (with_reducible repeat (first | refine blk_drewN ?_ _ | refine blk_drew ?_ | refine blk_alloc ?_ _)); refine blk_put (cs := #[.bool x115000_1, .slice none 0 0]) ?_ 1 _ rfl; (with_reducible repeat (first | refine blk_drewN ?_ _ | refine blk_drew ?_ | refine blk_alloc ?_ _)); refine blk_put (cs := #[.bool false, .slice none 0 0]) ?_ 0 _ rfl; exact zn BK113.out) Try.underlying30 rfl (by kernel_rfl)) rfl ?_; exact ⟨_, by first | rfl | (simp [errW_none, errW_some] <;> rfl) | (simp [*, errW_none, errW_some] <;> rfl), by (with_reducible repeat (first | apply Kd.R_alloc | apply Kd.R_drewN | apply Kd.R_drew)); exact Kd.R_mono (Kd.R_far (p := ⟨gb113, 1, none⟩) (Kd.R_far (p := ⟨gb113, 0, none⟩) (Kd.R_types HO_115001.out BK113.out (by decide)) (fun _ hk => hk.2) (.bool x115000_1)) (fun _ hk => hk.2) (.slice Ao22 x115001_1.length co22)) (fun _ hk => trivial), zb⟩

/-! ### mat_Dot: function 34 -/
def mat_Dot.f (k : Nat) (l0 : List (S30)) (l1 : List (S30)) : Option (Bool × List Int × Int) := if (l0.length : Int) = (l1.length : Int) then ((mat_dot.f k l0 l1).bind fun bt126 => (some (bt126.1, bt126.2, 0))) else (some (false, ([] : List Int), 8))
theorem mat_Dot.mono : ∀ a0 a1 k, LeO (mat_Dot.f k a0 a1) (mat_Dot.f (k + 1) a0 a1) := by
 intro a0 a1 k; unfold mat_Dot.f
 repeat' first
   | (with_reducible exact mat_dot.mono _ _ _)
   | (with_reducible exact LeO.refl _)
   | (with_reducible exact LeO.none _)
   | (with_reducible refine LeO.ite ?_ ?_)
   | (with_reducible refine LeO.bind ?_ (fun _ => ?_))
   | exact mat_dot.mono _ _ _
   | exact LeO.none _
   | refine LeO.ite ?_ ?_
   | refine LeO.bind ?_ (fun _ => ?_)
set_option maxHeartbeats 8000000 in
set_option maxRecDepth 100000 in
theorem mat_Dot.calls (k : Nat) (A0 : Option Addr) (c0 : Nat) (l0 : List (S30)) (A1 : Option Addr) (c1 : Nat) (l1 : List (S30)) (r1 : Bool) (r2 : List Int) (r3 : Int) (w : World) (hr0 : Kd.C k30 w A0 l0.length l0) (hc0 : l0.length ≤ c0) (hr1 : Kd.C k30 w A1 l1.length l1) (hc1 : l1.length ≤ c1) (h : mat_Dot.f k l0 l1 = some (r1, r2, r3)) :
  Calls Try.prog 34 #[.slice A0 l0.length c0, .slice A1 l1.length c1] w fun e w' => ∃ v1_ : Value, e = .returned (.tuple #[.agg #[.bool r1, v1_], .int .i64 r3]) ∧ Kd.R (Kd.int .u32) 44 w' w.heap.size (fun _ => True) v1_ r2 ∧ Below w.heap.size w w' := by
 have hu30 := Try.underlying30; have HR0 := az hr0; have HC0 := az hc0; clear hr0 hc0; have HR1 := az hr1; have HC1 := az hc1; clear hr1 hc1; have HB := az (Below.refl w.heap.size w); have H : (if (l0.length : Int) = (l1.length : Int) then ((mat_dot.f k l0 l1).bind fun bt126 => (some (bt126.1, bt126.2, 0))) else (some (false, ([] : List Int), 8))) = some (r1, r2, r3) := h; clear h
 by_cases c3 : (l0.length : Int) = (l1.length : Int)
 ·
  rw [if_pos c3] at H; have c3b0 : ((l0.length : Int) == (l1.length : Int)) = true := beq_iff_eq.mpr c3; have c3b1 : ((l0.length : Int) != (l1.length : Int)) = false := bne_eq_false_iff_eq.mpr c3; have c3b2 : (l0.length == l1.length) = true := by first | simpa using c3 | (simp at c3 ⊢; omega)
  clear c3; replace H := Option.bind_eq_some_iff.mp H; obtain ⟨⟨t126, t127⟩, A40, H⟩ := H; replace H : (some (t126, t127, 0)) = some (r1, r2, r3) := H; have A4 := az A40; clear A40; simp only [Option.some.injEq, Prod.mk.injEq] at H; obtain ⟨rfl, rfl, rfl⟩ := H
  go_enter Try.func34, Try.ntmps34
  go_wp2_with (first | ((with_reducible refine gate_dst (N := 4) rfl ?_); refine box_event ?hg (N := 4) ?hd (cs := #[.bool false, .slice none 0 0]) (t := 30) ?hr ?_; (case hd => rfl); (case hg => rfl); (case hr => first | (go_simp; done) | (go_simp; rfl)); intro gb125 hg w5 hbox hb; have n0_ := az (below_step zb hb); have n1_ := az (hbox); have n2_ := az ((by rw [hg]; exact (below_size zb) : w.heap.size ≤ gb125)); have n3_ := az ((by rw [hg]; exact (below_size zb) : w.heap.size ≤ gb125)); clear HB; have HB := n0_; have BK125 := n1_; have GW125 := n2_; have GE125 := n3_; clear n0_ n1_ n2_ n3_ hb hbox hg) | ((with_reducible refine gate_callee (f := 55) rfl ?_); refine goesL_ (some 14) rfl rfl Try.func55 (by kernel_rfl) rfl #[.slice A0 l0.length c0, .slice A1 l1.length c1] rfl zg ?_; (with_reducible refine (mat_dot.calls k _ _ l0 _ _ l1 t126 t127 _ ?side1 ?side2 ?side3 ?side4 (zh A4.out)).mono ?_); (case side1 => exact zc (Kd.C_below HR0.out HB.out)); (case side2 => exact HC0.out); (case side3 => exact zc (Kd.C_below HR1.out HB.out)); (case side4 => exact HC1.out); rintro e w6 ⟨v128, rfl, ho0, hb⟩; refine ⟨_, rfl, ?_⟩; have n0_ := az (Kd.R_lower ho0 (below_size zb)); have n1_ := az (blk_below (g := gb125) (o := .cells #[.bool false, .slice none 0 0] 30 (0, 0)) (zm BK125.out) hb); have n2_ := az (below_step zb hb); clear BK125 HB; have HO129 := n0_; have BK125 := n1_; have HB := n2_; clear n0_ n1_ n2_; (try clear hb); (try clear hb2); (try clear hk); (try clear hi); (try clear ho0); have hcz7_0 : w6.cell? ⟨gb125, 0, none⟩ = some (.bool false) := (blk_cell BK125.out 0).trans rfl; have hcz7_1 : w6.cell? ⟨gb125, 1, none⟩ = some (.slice none 0 0) := (blk_cell BK125.out 1).trans rfl; have hfz7_0 := blk_frozen BK125.out 0; have hfz7_1 := blk_frozen BK125.out 1; obtain ⟨Ao8, co8, eo8⟩ := Kd.R_slice HO129.out; subst eo8))
  refine bodyPost_ret (results_ct rfl _ _ gb125 30 #[.bool t126, .slice Ao8 t127.length co8] (0, 0) _ rfl (by (with_reducible repeat (first | refine blk_drewN ?_ _ | refine blk_drew ?_ | refine blk_alloc ?_ _)); refine blk_put (cs := #[.bool t126, .slice none 0 0]) ?_ 1 _ rfl; (with_reducible repeat (first | refine blk_drewN ?_ _ | refine blk_drew ?_ | refine blk_alloc ?_ _)); refine blk_put (cs := #[.bool false, .slice none 0 0]) ?_ 0 _ rfl; exact zn BK125.out) Try.underlying30 rfl (by kernel_rfl)) rfl ?_; exact ⟨_, by first | rfl | (simp [errW_none, errW_some] <;> rfl) | (simp [*, errW_none, errW_some] <;> rfl), by (with_reducible repeat (first | apply Kd.R_alloc | apply Kd.R_drewN | apply Kd.R_drew)); exact Kd.R_mono (Kd.R_far (p := ⟨gb125, 1, none⟩) (Kd.R_far (p := ⟨gb125, 0, none⟩) (Kd.R_types HO129.out BK125.out (by decide)) (fun _ hk => hk.2) (.bool t126)) (fun _ hk => hk.2) (.slice Ao8 t127.length co8)) (fun _ hk => trivial), zb⟩
 ·
  rw [if_neg c3] at H; have c3b0 : ((l0.length : Int) == (l1.length : Int)) = false := beq_eq_false_iff_ne.mpr c3; have c3b1 : ((l0.length : Int) != (l1.length : Int)) = true := bne_iff_ne.mpr c3; have c3b2 : (l0.length == l1.length) = false := by first | simpa using c3 | (simp at c3 ⊢; omega)
  simp only [Option.some.injEq, Prod.mk.injEq] at H; obtain ⟨rfl, rfl, rfl⟩ := H
  go_enter Try.func34, Try.ntmps34
  go_wp2_with (first | ((with_reducible refine gate_dst (N := 4) rfl ?_); refine box_event ?hg (N := 4) ?hd (cs := #[.bool false, .slice none 0 0]) (t := 30) ?hr ?_; (case hd => rfl); (case hg => rfl); (case hr => first | (go_simp; done) | (go_simp; rfl)); intro gb125 hg w9 hbox hb; have n0_ := az (below_step zb hb); have n1_ := az (hbox); have n2_ := az ((by rw [hg]; exact (below_size zb) : w.heap.size ≤ gb125)); have n3_ := az ((by rw [hg]; exact (below_size zb) : w.heap.size ≤ gb125)); clear HB; have HB := n0_; have BK125 := n1_; have GW125 := n2_; have GE125 := n3_; clear n0_ n1_ n2_ n3_ hb hbox hg; have hcz10_0 : w9.cell? ⟨gb125, 0, none⟩ = some (.bool false) := (blk_cell BK125.out 0).trans rfl; have hcz10_1 : w9.cell? ⟨gb125, 1, none⟩ = some (.slice none 0 0) := (blk_cell BK125.out 1).trans rfl; have hfz10_0 := blk_frozen BK125.out 0; have hfz10_1 := blk_frozen BK125.out 1))
  refine bodyPost_ret (results_ct rfl _ _ gb125 30 #[.bool false, .slice none 0 0] (0, 0) _ rfl (by (with_reducible repeat (first | refine blk_drewN ?_ _ | refine blk_drew ?_ | refine blk_alloc ?_ _)); refine blk_put (cs := #[.bool false, .slice none 0 0]) ?_ 1 _ rfl; (with_reducible repeat (first | refine blk_drewN ?_ _ | refine blk_drew ?_ | refine blk_alloc ?_ _)); refine blk_put (cs := #[.bool false, .slice none 0 0]) ?_ 0 _ rfl; exact zn BK125.out) Try.underlying30 rfl (by kernel_rfl)) rfl ?_; exact ⟨_, by first | rfl | (simp [errW_none, errW_some] <;> rfl) | (simp [*, errW_none, errW_some] <;> rfl), by first | exact Kd.R_nil _ _ _ _ _ | exact Kd.N_nil _ _ _ _ _ | exact Kd.V_nil _ _ _ _ _ | exact Kd.Q_nil _ _ _ _ _ | exact Kd.S_nil _ _ _ _ _, zb⟩

/-! ### zint_Sub: function 35 -/
def zint_Sub.f (a0_0 : Bool) (l0_1 : List Int) (a1_0 : Bool) (l1_1 : List Int) : Option (Bool × List Int) := if okL l0_1 = true ∧ okL l1_1 = true then some (cz (zv a0_0 l0_1 - zv a1_0 l1_1)) else none
set_option maxHeartbeats 1000000 in
theorem zint_Sub.calls (a0_0 : Bool) (A0_1 : Option Addr) (c0_1 : Nat) (l0_1 : List Int) (a1_0 : Bool) (A1_1 : Option Addr) (c1_1 : Nat) (l1_1 : List Int) (r1 : Bool) (r2 : List Int) (w : World) (hr0_1 : Kd.C (Kd.int .u32) w A0_1 l0_1.length l0_1) (hc0_1 : l0_1.length ≤ c0_1) (hr1_1 : Kd.C (Kd.int .u32) w A1_1 l1_1.length l1_1) (hc1_1 : l1_1.length ≤ c1_1) (h : zint_Sub.f a0_0 l0_1 a1_0 l1_1 = some (r1, r2)) :
  Calls Try.prog 35 #[.agg #[.bool a0_0, .slice A0_1 l0_1.length c0_1], .agg #[.bool a1_0, .slice A1_1 l1_1.length c1_1]] w fun e w' => ∃ v1_ : Value, e = .returned (.agg #[.bool r1, v1_]) ∧ Kd.R (Kd.int .u32) 44 w' w.heap.size (fun _ => True) v1_ r2 ∧ Below w.heap.size w w' := by
 unfold zint_Sub.f at h; obtain ⟨hg, h⟩ := ite_some h; exact (Go.Proofs.Ytebfblpoeeiagaa.zint_Sub _ _ _ _ _ _ _ _ _ _ _ _ _ (okL_gi _ hr0_1 hc0_1 hg.1) (okL_gi _ hr1_1 hc1_1 hg.2) (okL_lim hg.1).2 (okL_lim hg.2).2).mono fun e w' h' => ret_R h' h

/-! ### zint_Floor: function 37 -/
def zint_Floor.f (a0_0 : Bool) (l0_1 : List Int) (a1_0 : Bool) (l1_1 : List Int) : Option (Bool × List Int × Bool × List Int × Int) := if okL l0_1 = true ∧ okL l1_1 = true ∧ (zv a1_0 l1_1) ≠ 0 ∧ (zv a1_0 l1_1) ∣ (zv a0_0 l0_1) then some ((cz (Int.fdiv (zv a0_0 l0_1) (zv a1_0 l1_1))).1, (cz (Int.fdiv (zv a0_0 l0_1) (zv a1_0 l1_1))).2, (cz (Int.fmod (zv a0_0 l0_1) (zv a1_0 l1_1))).1, (cz (Int.fmod (zv a0_0 l0_1) (zv a1_0 l1_1))).2, 0) else none
set_option maxHeartbeats 1000000 in
theorem zint_Floor.calls (a0_0 : Bool) (A0_1 : Option Addr) (c0_1 : Nat) (l0_1 : List Int) (a1_0 : Bool) (A1_1 : Option Addr) (c1_1 : Nat) (l1_1 : List Int) (r1 : Bool) (r2 : List Int) (r3 : Bool) (r4 : List Int) (r5 : Int) (w : World) (hr0_1 : Kd.C (Kd.int .u32) w A0_1 l0_1.length l0_1) (hc0_1 : l0_1.length ≤ c0_1) (hr1_1 : Kd.C (Kd.int .u32) w A1_1 l1_1.length l1_1) (hc1_1 : l1_1.length ≤ c1_1) (h : zint_Floor.f a0_0 l0_1 a1_0 l1_1 = some (r1, r2, r3, r4, r5)) :
  Calls Try.prog 37 #[.agg #[.bool a0_0, .slice A0_1 l0_1.length c0_1], .agg #[.bool a1_0, .slice A1_1 l1_1.length c1_1]] w fun e w' => ∃ v1_ v3_ : Value, e = .returned (.tuple #[.agg #[.bool r1, v1_], .agg #[.bool r3, v3_], .int .i64 r5]) ∧ Kd.R (Kd.int .u32) 44 w' w.heap.size (fun k_ => some k_ ≠ (v3_ : Value).ownBlock) v1_ r2 ∧ Kd.R (Kd.int .u32) 44 w' w.heap.size (fun k_ => some k_ ≠ (v1_ : Value).ownBlock) v3_ r4 ∧ Below w.heap.size w w' := by
 unfold zint_Floor.f at h; obtain ⟨hg, h⟩ := ite_some h; exact (Go.Proofs.Ytebfblpoeeiagaa.zint_FloorX _ _ _ _ _ _ _ _ _ _ _ _ _ (okL_gi _ hr0_1 hc0_1 hg.1) (okL_gi _ hr1_1 hc1_1 hg.2.1) (okL_lim hg.1).2 (okL_lim hg.2.1).2 hg.2.2.1 hg.2.2.2).mono fun e w' h' => floor_R h' h

end Go.Proofs.Ytebfblpoeeiagaa.QL
