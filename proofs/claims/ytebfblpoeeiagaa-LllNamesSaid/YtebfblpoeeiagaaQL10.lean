/- Printed by a program of this session off the program's translation: what the functions answer, and that they do. -/
-- squeezed
import Derived.Test.YtebfblpoeeiagaaQL0
import Derived.Test.YtebfblpoeeiagaaQL8
import Derived.Test.YtebfblpoeeiagaaQL9
namespace Go.Proofs.Ytebfblpoeeiagaa.QL
open Go.RowKit Go.Proofs.YtebfblpoeeiagaaW.PrintWords Go.Proofs.YtebfblpoeeiagaaW.PrintLast Go.Proofs.YtebfblpoeeiagaaW.PrintMore
attribute [local go_sem] max2_int min2_int max_two min_two max_three min_three max_four min_four   -- for this text's walks alone
set_option linter.unusedVariables false
set_option linter.unusedSimpArgs false

/-! ### trammelref01_less: function 71 -/
def trammelref01_less.l0 : Nat → List Int → List Int → List Int → Int → Int → Option (List Int)
 | 0, _, _, _, _, _ => none
 | k + 1, x0, x1, x5, x6, x7 => if x7 < (x0.length : Int) then ((trammelref01_limb.f x0 x7).bind fun t335 => ((trammelref01_limb.f x1 x7).bind fun t336 => (if t335 < (IntKind.u64.wrap (t336 + x6)) then (if x5.length < 35184372088832 then (trammelref01_less.l0 k x0 x1 (x5 ++ [(IntKind.u64.wrap ((IntKind.u64.wrap (t335 + 4294967296)) - (IntKind.u64.wrap (t336 + x6)))) % 4294967296]) 1 (wrap64 (x7 + 1))) else (none)) else (if x5.length < 35184372088832 then (trammelref01_less.l0 k x0 x1 (x5 ++ [(IntKind.u64.wrap (t335 - (IntKind.u64.wrap (t336 + x6)))) % 4294967296]) 0 (wrap64 (x7 + 1))) else (none))))) else ((trammelref01_Norm.f k x5).bind fun t332 => (some t332))
def trammelref01_less.f (k : Nat) (l0 : List Int) (l1 : List Int) : Option (List Int) := trammelref01_less.l0 k l0 l1 ([] : List Int) 0 0
theorem trammelref01_less.mono_l : ∀ k, (∀ y0 y1 y2 y3 y4, LeO (trammelref01_less.l0 k y0 y1 y2 y3 y4) (trammelref01_less.l0 (k + 1) y0 y1 y2 y3 y4))
 | 0 => fun _ _ _ _ _ r h => by simp [trammelref01_less.l0] at h
 | k + 1 => by
  have ih0 := trammelref01_less.mono_l k; ·
   intro y0 y1 y2 y3 y4; unfold trammelref01_less.l0
   repeat' first
   | (with_reducible exact ih0 _ _ _ _ _)
   | (with_reducible exact trammelref01_Norm.mono _ _)
   | (with_reducible exact LeO.refl _)
   | (with_reducible exact LeO.none _)
   | (with_reducible refine LeO.ite ?_ ?_)
   | (with_reducible refine LeO.bind ?_ (fun _ => ?_))
   | exact ih0 _ _ _ _ _
   | exact trammelref01_Norm.mono _ _
   | exact LeO.none _
   | refine LeO.ite ?_ ?_
   | refine LeO.bind ?_ (fun _ => ?_)
theorem trammelref01_less.mono : ∀ a0 a1 k, LeO (trammelref01_less.f k a0 a1) (trammelref01_less.f (k + 1) a0 a1) := by
 intro a0 a1 k; have ih0 := trammelref01_less.mono_l k; unfold trammelref01_less.f
 repeat' first
   | (with_reducible exact ih0 _ _ _ _ _)
   | (with_reducible exact trammelref01_Norm.mono _ _)
   | (with_reducible exact LeO.refl _)
   | (with_reducible exact LeO.none _)
   | (with_reducible refine LeO.ite ?_ ?_)
   | (with_reducible refine LeO.bind ?_ (fun _ => ?_))
   | exact ih0 _ _ _ _ _
   | exact trammelref01_Norm.mono _ _
   | exact LeO.none _
   | refine LeO.ite ?_ ?_
   | refine LeO.bind ?_ (fun _ => ?_)
set_option maxHeartbeats 8000000 in
set_option maxRecDepth 100000 in
theorem trammelref01_less.calls (k : Nat) (A0 : Option Addr) (c0 : Nat) (l0 : List Int) (A1 : Option Addr) (c1 : Nat) (l1 : List Int) (r : List Int) (w : World) (hr0 : Kd.C (Kd.int .u32) w A0 l0.length l0) (hc0 : l0.length ≤ c0) (hr1 : Kd.C (Kd.int .u32) w A1 l1.length l1) (hc1 : l1.length ≤ c1) (h : trammelref01_less.f k l0 l1 = some r) :
  Calls Try.prog 71 #[.slice A0 l0.length c0, .slice A1 l1.length c1] w fun e w' => ∃ v0_ : Value, e = .returned (v0_) ∧ Kd.R (Kd.int .u32) 44 w' w.heap.size (fun _ => True) v0_ r ∧ Below w.heap.size w w' := by
 have HR0 := az hr0; have HC0 := az hc0; clear hr0 hc0; have HR1 := az hr1; have HC1 := az hc1; clear hr1 hc1; have HB := az (Below.refl w.heap.size w); have H : (trammelref01_less.l0 k l0 l1 ([] : List Int) 0 0) = some r := h; clear h; have H' := az H; clear H
 go_enter Try.func71, Try.ntmps71
 go_wp2
 go_loopg [5, 6, 7] k (fun kq v5 v6 v7 w' => ∃ (x5_1 : List Int) (x6_1 : Int) (x7_1 : Int), v6 = .int .u64 x6_1 ∧ v7 = .int .i64 x7_1 ∧ Aside0 (trammelref01_less.l0 kq l0 l1 x5_1 x6_1 x7_1 = some r) ∧ Aside0 (kq ≤ k) ∧ Aside0 (Kd.R (Kd.int .u32) 44 w' w.heap.size (fun _ => True) v5 x5_1) ∧ Aside0 (Below w.heap.size w w'))
 case atStart => exact ⟨(([] : List Int)), (0), (0), (by first | rfl | (simp; done) | (simp [*]; done)), (by first | rfl | (simp; done) | (simp [*]; done)), H', ⟨Nat.le_refl _⟩, ⟨by first | exact Kd.R_nil _ _ _ _ _ | exact Kd.N_nil _ _ _ _ _ | exact Kd.V_nil _ _ _ _ _ | exact Kd.Q_nil _ _ _ _ _ | exact Kd.S_nil _ _ _ _ _⟩, ⟨zb⟩⟩
 case round =>
  clear H'
  try clear c1
  try clear p2
  obtain ⟨x5_1, x6_1, x7_1, rfl, rfl, HA, HK1, HO_5, HB⟩ := hrel
  cases gk with
  | zero => exact absurd HA.out (by simp [trammelref01_less.l0])
  | succ k1 =>
   have H := HA.out; clear HA; simp only [trammelref01_less.l0] at H
   by_cases c3 : x7_1 < (l0.length : Int)
   ·
    rw [if_pos c3] at H; have c3b0 : decide (x7_1 < (l0.length : Int)) = true := decide_eq_true c3; clear c3; replace H := Option.bind_eq_some_iff.mp H; obtain ⟨t335, A40, H⟩ := H; replace H : ((trammelref01_limb.f l1 x7_1).bind fun t336 => (if t335 < (IntKind.u64.wrap (t336 + x6_1)) then (if x5_1.length < 35184372088832 then (trammelref01_less.l0 k1 l0 l1 (x5_1 ++ [(IntKind.u64.wrap ((IntKind.u64.wrap (t335 + 4294967296)) - (IntKind.u64.wrap (t336 + x6_1)))) % 4294967296]) 1 (wrap64 (x7_1 + 1))) else (none)) else (if x5_1.length < 35184372088832 then (trammelref01_less.l0 k1 l0 l1 (x5_1 ++ [(IntKind.u64.wrap (t335 - (IntKind.u64.wrap (t336 + x6_1)))) % 4294967296]) 0 (wrap64 (x7_1 + 1))) else (none)))) = some r := H; have A4 := az A40; clear A40; replace H := Option.bind_eq_some_iff.mp H; obtain ⟨t336, A50, H⟩ := H; replace H : (if t335 < (IntKind.u64.wrap (t336 + x6_1)) then (if x5_1.length < 35184372088832 then (trammelref01_less.l0 k1 l0 l1 (x5_1 ++ [(IntKind.u64.wrap ((IntKind.u64.wrap (t335 + 4294967296)) - (IntKind.u64.wrap (t336 + x6_1)))) % 4294967296]) 1 (wrap64 (x7_1 + 1))) else (none)) else (if x5_1.length < 35184372088832 then (trammelref01_less.l0 k1 l0 l1 (x5_1 ++ [(IntKind.u64.wrap (t335 - (IntKind.u64.wrap (t336 + x6_1)))) % 4294967296]) 0 (wrap64 (x7_1 + 1))) else (none))) = some r := H; have A5 := az A50; clear A50
    by_cases c6 : t335 < (IntKind.u64.wrap (t336 + x6_1))
    ·
     rw [if_pos c6] at H; have c6b0 : decide (t335 < (IntKind.u64.wrap (t336 + x6_1))) = true := decide_eq_true c6; clear c6
     by_cases c7 : x5_1.length < 35184372088832
     ·
      rw [if_pos c7] at H; have LMc7 := az c7; clear c7; obtain ⟨y337, hy337⟩ : ∃ y_ : List Int, y_ = (x5_1 ++ [(IntKind.u64.wrap ((IntKind.u64.wrap (t335 + 4294967296)) - (IntKind.u64.wrap (t336 + x6_1)))) % 4294967296]) := ⟨_, rfl⟩; replace H : (trammelref01_less.l0 k1 l0 l1 y337 1 (wrap64 (x7_1 + 1))) = some r := by first | (rw [hy337]; with_reducible exact H) | (have H2_ := (Option.bind_some _ _).symm.trans H; rw [hy337]; with_reducible exact H2_) | (have H2_ := (Option.bind_some _ _).symm.trans H; with_reducible exact H2_) | with_reducible exact H | (rw [hy337]; exact H) | exact H
      have Ny337 := az hy337; clear hy337; have H' := az H; clear H
      go_wp2_with (first | ((with_reducible refine gate_callee (f := 70) rfl ?_); refine goesL_ (some 18) rfl rfl Try.func70 (by kernel_rfl) rfl #[.slice A0 l0.length c0, .int .i64 x7_1] rfl zg ?_; (with_reducible refine (trammelref01_limb.calls _ _ l0 x7_1 t335 _ ?side1 ?side2 (zh A4.out)).mono ?_); (case side1 => exact zc (Kd.C_below HR0.out HB.out)); (case side2 => exact HC0.out); rintro e w' ⟨rfl, ⟨nd, rfl⟩⟩; refine ⟨_, rfl, ?_⟩) | ((with_reducible refine gate_callee (f := 70) rfl ?_); refine goesL_ (some 21) rfl rfl Try.func70 (by kernel_rfl) rfl #[.slice A1 l1.length c1, .int .i64 x7_1] rfl zg ?_; (with_reducible refine (trammelref01_limb.calls _ _ l1 x7_1 t336 _ ?side1 ?side2 (zh A5.out)).mono ?_); (case side1 => exact zc (Kd.C_below HR1.out zb)); (case side2 => exact HC1.out); rintro e w' ⟨rfl, ⟨nd, rfl⟩⟩; refine ⟨_, rfl, ?_⟩) | ((with_reducible refine gate_builtin (b := .append) (xs := #[.tmp 29, .tmp 34]) rfl ?_); at_builtin; refine Kd.R_append (Kd.int .u32) (w0 := w) w.heap.size rfl (.tmp 29) (.tmp 34) 28 44 (.int .u32 0) 4 rfl Try.underlying28 info44 rfl (by decide) (by omega) u5 x5_1 ((IntKind.u64.wrap ((IntKind.u64.wrap (t335 + 4294967296)) - (IntKind.u64.wrap (t336 + x6_1)))) % 4294967296) [.int .u32 ((IntKind.u64.wrap ((IntKind.u64.wrap (t335 + 4294967296)) - (IntKind.u64.wrap (t336 + x6_1)))) % 4294967296)] (fun _ => True) (fun _ => False) rfl rfl ?aP (fun _ hk => hk.elim) ?aF ?aO ?aB ?aS ?aL ?_; (case aP => exact rfl); (case aB => exact zb); (case aF => exact (fun _ _ => trivial)); (case aO => exact (zm HO_5.out)); (case aS => exact (below_size zb)); (case aL => have := LMc7.out; omega); intro v338 w8 ho hb hg hat; rw [← Ny337.out] at ho; have n0_ := az (hb); have n1_ := az (ho); clear HB HO_5; have HB := n0_; have HO339 := n1_; clear n0_ n1_ ho hb hg hat))
      go_roundg k1
      case measure => have := HK1.out; omega
      case rel => exact ⟨(y337), (1), (wrap64 (x7_1 + 1)), (by first | rfl | (simp; done) | (simp [*]; done)), (by first | rfl | (simp; done) | (simp [*]; done)), H', ⟨by have := HK1.out; omega⟩, ⟨by (with_reducible repeat (first | apply Kd.R_alloc | apply Kd.R_drewN | apply Kd.R_drew)); exact HO339.out⟩, ⟨zb⟩⟩
     · rw [if_neg c7] at H; exact absurd H (by simp)
    ·
     rw [if_neg c6] at H; have c6b0 : decide (t335 < (IntKind.u64.wrap (t336 + x6_1))) = false := decide_eq_false c6; clear c6
     by_cases c9 : x5_1.length < 35184372088832
     ·
      rw [if_pos c9] at H; have LMc9 := az c9; clear c9; obtain ⟨y340, hy340⟩ : ∃ y_ : List Int, y_ = (x5_1 ++ [(IntKind.u64.wrap (t335 - (IntKind.u64.wrap (t336 + x6_1)))) % 4294967296]) := ⟨_, rfl⟩; replace H : (trammelref01_less.l0 k1 l0 l1 y340 0 (wrap64 (x7_1 + 1))) = some r := by first | (rw [hy340]; with_reducible exact H) | (have H2_ := (Option.bind_some _ _).symm.trans H; rw [hy340]; with_reducible exact H2_) | (have H2_ := (Option.bind_some _ _).symm.trans H; with_reducible exact H2_) | with_reducible exact H | (rw [hy340]; exact H) | exact H
      have Ny340 := az hy340; clear hy340; have H' := az H; clear H
      go_wp2_with (first | ((with_reducible refine gate_callee (f := 70) rfl ?_); refine goesL_ (some 18) rfl rfl Try.func70 (by kernel_rfl) rfl #[.slice A0 l0.length c0, .int .i64 x7_1] rfl zg ?_; (with_reducible refine (trammelref01_limb.calls _ _ l0 x7_1 t335 _ ?side1 ?side2 (zh A4.out)).mono ?_); (case side1 => exact zc (Kd.C_below HR0.out HB.out)); (case side2 => exact HC0.out); rintro e w' ⟨rfl, ⟨nd, rfl⟩⟩; refine ⟨_, rfl, ?_⟩) | ((with_reducible refine gate_callee (f := 70) rfl ?_); refine goesL_ (some 21) rfl rfl Try.func70 (by kernel_rfl) rfl #[.slice A1 l1.length c1, .int .i64 x7_1] rfl zg ?_; (with_reducible refine (trammelref01_limb.calls _ _ l1 x7_1 t336 _ ?side1 ?side2 (zh A5.out)).mono ?_); (case side1 => exact zc (Kd.C_below HR1.out zb)); (case side2 => exact HC1.out); rintro e w' ⟨rfl, ⟨nd, rfl⟩⟩; refine ⟨_, rfl, ?_⟩) | ((with_reducible refine gate_builtin (b := .append) (xs := #[.tmp 29, .tmp 34]) rfl ?_); at_builtin; refine Kd.R_append (Kd.int .u32) (w0 := w) w.heap.size rfl (.tmp 29) (.tmp 34) 28 44 (.int .u32 0) 4 rfl Try.underlying28 info44 rfl (by decide) (by omega) u5 x5_1 ((IntKind.u64.wrap (t335 - (IntKind.u64.wrap (t336 + x6_1)))) % 4294967296) [.int .u32 ((IntKind.u64.wrap (t335 - (IntKind.u64.wrap (t336 + x6_1)))) % 4294967296)] (fun _ => True) (fun _ => False) rfl rfl ?aP (fun _ hk => hk.elim) ?aF ?aO ?aB ?aS ?aL ?_; (case aP => exact rfl); (case aB => exact zb); (case aF => exact (fun _ _ => trivial)); (case aO => exact (zm HO_5.out)); (case aS => exact (below_size zb)); (case aL => have := LMc9.out; omega); intro v341 w10 ho hb hg hat; rw [← Ny340.out] at ho; have n0_ := az (hb); have n1_ := az (ho); clear HB HO_5; have HB := n0_; have HO342 := n1_; clear n0_ n1_ ho hb hg hat))
      go_roundg k1
      case measure => have := HK1.out; omega
      case rel => exact ⟨(y340), (0), (wrap64 (x7_1 + 1)), (by first | rfl | (simp; done) | (simp [*]; done)), (by first | rfl | (simp; done) | (simp [*]; done)), H', ⟨by have := HK1.out; omega⟩, ⟨by (with_reducible repeat (first | apply Kd.R_alloc | apply Kd.R_drewN | apply Kd.R_drew)); exact HO342.out⟩, ⟨zb⟩⟩
     · rw [if_neg c9] at H; exact absurd H (by simp)
   ·
    rw [if_neg c3] at H; have c3b0 : decide (x7_1 < (l0.length : Int)) = false := decide_eq_false c3; clear c3; replace H := Option.bind_eq_some_iff.mp H; obtain ⟨t332, A110, H⟩ := H; replace H : (some t332) = some r := H; have A11 := az A110; clear A110; obtain rfl := Option.some.inj H; obtain ⟨Ao12, co12, eo12⟩ := Kd.R_slice HO_5.out; subst eo12
    go_wp2_with (first | ((with_reducible refine gate_callee (f := 28) rfl ?_); refine goesL_ (some 37) rfl rfl Try.func28 (by kernel_rfl) rfl #[.slice Ao12 x5_1.length co12] rfl zg ?_; (with_reducible refine (trammelref01_Norm.calls k1 _ _ x5_1 t332 _ ?side1 ?side2 (zh A11.out)).mono ?_); (case side1 => exact zc (Kd.R_reads' HO_5.out).2.2); (case side2 => exact (Kd.R_reads' HO_5.out).2.1); rintro e w13 ⟨v333, rfl, ho0, hb⟩; refine ⟨_, rfl, ?_⟩; have n0_ := az (Kd.R_elder' (zm HO_5.out) (Kd.R_base ho0) hb); have n1_ := az (Kd.R_lower (Kd.R_new' ho0 (Kd.R_lt (zm HO_5.out))) (below_size zb)); have n2_ := az (below_step zb hb); clear HO_5 HB; have HO_5 := n0_; have HO334 := n1_; have HB := n2_; clear n0_ n1_ n2_; (try clear hb); (try clear hb2); (try clear hk); (try clear hi); (try clear ho0)))
    go_ret
    exact ⟨_, by first | rfl | (simp [errW_none, errW_some] <;> rfl) | (simp [*, errW_none, errW_some] <;> rfl), by (with_reducible repeat (first | apply Kd.R_alloc | apply Kd.R_drewN | apply Kd.R_drew)); exact Kd.R_mono HO334.out (fun _ hk => trivial), zb⟩

/-! ### trammelref01_Sub: function 52 -/
def trammelref01_Sub.f (k : Nat) (l0 : List Int) (l1 : List Int) : Option (List Int × Int) := (trammelref01_Cmp.f k l0 l1).bind fun t343 => (if t343 < 0 then (some (([] : List Int), 10)) else ((trammelref01_less.f k l0 l1).bind fun t344 => (some (t344, 0))))
theorem trammelref01_Sub.mono : ∀ a0 a1 k, LeO (trammelref01_Sub.f k a0 a1) (trammelref01_Sub.f (k + 1) a0 a1) := by
 intro a0 a1 k; unfold trammelref01_Sub.f
 repeat' first
   | (with_reducible exact trammelref01_Cmp.mono _ _ _)
   | (with_reducible exact trammelref01_less.mono _ _ _)
   | (with_reducible exact LeO.refl _)
   | (with_reducible exact LeO.none _)
   | (with_reducible refine LeO.ite ?_ ?_)
   | (with_reducible refine LeO.bind ?_ (fun _ => ?_))
   | exact trammelref01_Cmp.mono _ _ _
   | exact trammelref01_less.mono _ _ _
   | exact LeO.none _
   | refine LeO.ite ?_ ?_
   | refine LeO.bind ?_ (fun _ => ?_)
set_option maxHeartbeats 8000000 in
set_option maxRecDepth 100000 in
theorem trammelref01_Sub.calls (k : Nat) (A0 : Option Addr) (c0 : Nat) (l0 : List Int) (A1 : Option Addr) (c1 : Nat) (l1 : List Int) (r1 : List Int) (r2 : Int) (w : World) (hr0 : Kd.C (Kd.int .u32) w A0 l0.length l0) (hc0 : l0.length ≤ c0) (hr1 : Kd.C (Kd.int .u32) w A1 l1.length l1) (hc1 : l1.length ≤ c1) (h : trammelref01_Sub.f k l0 l1 = some (r1, r2)) :
  Calls Try.prog 52 #[.slice A0 l0.length c0, .slice A1 l1.length c1] w fun e w' => ∃ v0_ : Value, e = .returned (.tuple #[v0_, .int .i64 r2]) ∧ Kd.R (Kd.int .u32) 44 w' w.heap.size (fun _ => True) v0_ r1 ∧ Below w.heap.size w w' := by
 have HR0 := az hr0; have HC0 := az hc0; clear hr0 hc0; have HR1 := az hr1; have HC1 := az hc1; clear hr1 hc1; have HB := az (Below.refl w.heap.size w); have H : ((trammelref01_Cmp.f k l0 l1).bind fun t343 => (if t343 < 0 then (some (([] : List Int), 10)) else ((trammelref01_less.f k l0 l1).bind fun t344 => (some (t344, 0))))) = some (r1, r2) := h; clear h; replace H := Option.bind_eq_some_iff.mp H; obtain ⟨t343, A30, H⟩ := H; replace H : (if t343 < 0 then (some (([] : List Int), 10)) else ((trammelref01_less.f k l0 l1).bind fun t344 => (some (t344, 0)))) = some (r1, r2) := H; have A3 := az A30; clear A30
 by_cases c4 : t343 < 0
 ·
  rw [if_pos c4] at H; have c4b0 : decide (t343 < 0) = true := decide_eq_true c4; clear c4; simp only [Option.some.injEq, Prod.mk.injEq] at H; obtain ⟨rfl, rfl⟩ := H
  go_enter Try.func52, Try.ntmps52
  go_wp2_with (first | ((with_reducible refine gate_callee (f := 51) rfl ?_); refine goesL_ (some 8) rfl rfl Try.func51 (by kernel_rfl) rfl #[.slice A0 l0.length c0, .slice A1 l1.length c1] rfl zg ?_; (with_reducible refine (trammelref01_Cmp.calls k _ _ l0 _ _ l1 t343 _ ?side1 ?side2 ?side3 ?side4 (zh A3.out)).mono ?_); (case side1 => exact zc HR0.out); (case side2 => exact HC0.out); (case side3 => exact zc HR1.out); (case side4 => exact HC1.out); rintro e w' ⟨rfl, ⟨nd, rfl⟩⟩; refine ⟨_, rfl, ?_⟩))
  go_ret2
  exact ⟨_, by first | rfl | (simp [errW_none, errW_some] <;> rfl) | (simp [*, errW_none, errW_some] <;> rfl), by first | exact Kd.R_nil _ _ _ _ _ | exact Kd.N_nil _ _ _ _ _ | exact Kd.V_nil _ _ _ _ _ | exact Kd.Q_nil _ _ _ _ _ | exact Kd.S_nil _ _ _ _ _, zb⟩
 ·
  rw [if_neg c4] at H; have c4b0 : decide (t343 < 0) = false := decide_eq_false c4; clear c4; replace H := Option.bind_eq_some_iff.mp H; obtain ⟨t344, A50, H⟩ := H; replace H : (some (t344, 0)) = some (r1, r2) := H; have A5 := az A50; clear A50; simp only [Option.some.injEq, Prod.mk.injEq] at H; obtain ⟨rfl, rfl⟩ := H
  go_enter Try.func52, Try.ntmps52
  go_wp2_with (first | ((with_reducible refine gate_callee (f := 51) rfl ?_); refine goesL_ (some 8) rfl rfl Try.func51 (by kernel_rfl) rfl #[.slice A0 l0.length c0, .slice A1 l1.length c1] rfl zg ?_; (with_reducible refine (trammelref01_Cmp.calls k _ _ l0 _ _ l1 t343 _ ?side1 ?side2 ?side3 ?side4 (zh A3.out)).mono ?_); (case side1 => exact zc HR0.out); (case side2 => exact HC0.out); (case side3 => exact zc HR1.out); (case side4 => exact HC1.out); rintro e w' ⟨rfl, ⟨nd, rfl⟩⟩; refine ⟨_, rfl, ?_⟩) | ((with_reducible refine gate_callee (f := 71) rfl ?_); refine goesL_ (some 12) rfl rfl Try.func71 (by kernel_rfl) rfl #[.slice A0 l0.length c0, .slice A1 l1.length c1] rfl zg ?_; (with_reducible refine (trammelref01_less.calls k _ _ l0 _ _ l1 t344 _ ?side1 ?side2 ?side3 ?side4 (zh A5.out)).mono ?_); (case side1 => exact zc HR0.out); (case side2 => exact HC0.out); (case side3 => exact zc HR1.out); (case side4 => exact HC1.out); rintro e w6 ⟨v345, rfl, ho0, hb⟩; refine ⟨_, rfl, ?_⟩; have n0_ := az (Kd.R_lower ho0 (below_size zb)); have n1_ := az (below_step zb hb); clear HB; have HO346 := n0_; have HB := n1_; clear n0_ n1_; (try clear hb); (try clear hb2); (try clear hk); (try clear hi); (try clear ho0)))
  go_ret2
  exact ⟨_, by first | rfl | (simp [errW_none, errW_some] <;> rfl) | (simp [*, errW_none, errW_some] <;> rfl), zm HO346.out, zb⟩

end Go.Proofs.Ytebfblpoeeiagaa.QL
