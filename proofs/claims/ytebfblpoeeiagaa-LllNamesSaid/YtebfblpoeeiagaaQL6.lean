/- Printed by a program of this session off the program's translation: what the functions answer, and that they do. -/
-- squeezed
import Derived.Test.YtebfblpoeeiagaaQL0
import Derived.Test.YtebfblpoeeiagaaQL5
namespace Go.Proofs.Ytebfblpoeeiagaa.QL
open Go.RowKit Go.Proofs.YtebfblpoeeiagaaW.PrintWords Go.Proofs.YtebfblpoeeiagaaW.PrintLast Go.Proofs.YtebfblpoeeiagaaW.PrintMore
attribute [local go_sem] max2_int min2_int max_two min_two max_three min_three max_four min_four   -- for this text's walks alone
set_option linter.unusedVariables false
set_option linter.unusedSimpArgs false

/-! ### api_Int_40: function 40 -/
def api_Int_40.l0 : Nat → List (S30) → List (S30) → Int → Int → Option ((List (S30)))
 | 0, _, _, _, _ => none
 | k + 1, x5, x11, x12, x13 => if x13 < x12 then (if 0 ≤ x13 then (if x13 < (x11.length : Int) then ((zint_Form.f ((rd_T30 x11 x13).f0) ((rd_T30 x11 x13).f1)).bind fun bt260 => (if x5.length < 4398046511104 then (api_Int_40.l0 k (x5 ++ [(⟨bt260.1, bt260.2⟩ : S30)]) x11 x12 (wrap64 (x13 + 1))) else (none))) else (none)) else (none)) else (some x5)
def api_Int_40.f (k : Nat) (l0 : List (S30)) (a1 : Unit) : Option ((List (S30))) := if 0 ≤ (l0.length : Int) then (if ((l0.length : Int) : Int).toNat ≤ 8796093022208 then (api_Int_40.l0 k (([] : List (S30))) l0 (l0.length : Int) 0) else (none)) else (none)
theorem api_Int_40.mono_l : ∀ k, (∀ y0 y1 y2 y3, LeO (api_Int_40.l0 k y0 y1 y2 y3) (api_Int_40.l0 (k + 1) y0 y1 y2 y3))
 | 0 => fun _ _ _ _ r h => by simp [api_Int_40.l0] at h
 | k + 1 => by
  have ih0 := api_Int_40.mono_l k; ·
   intro y0 y1 y2 y3; unfold api_Int_40.l0
   repeat' first
   | (with_reducible exact ih0 _ _ _ _)
   | (with_reducible exact LeO.refl _)
   | (with_reducible exact LeO.none _)
   | (with_reducible refine LeO.ite ?_ ?_)
   | (with_reducible refine LeO.bind ?_ (fun _ => ?_))
   | exact ih0 _ _ _ _
   | exact LeO.none _
   | refine LeO.ite ?_ ?_
   | refine LeO.bind ?_ (fun _ => ?_)
theorem api_Int_40.mono : ∀ a0 a1 k, LeO (api_Int_40.f k a0 a1) (api_Int_40.f (k + 1) a0 a1) := by
 intro a0 a1 k; have ih0 := api_Int_40.mono_l k; unfold api_Int_40.f
 repeat' first
   | (with_reducible exact ih0 _ _ _ _)
   | (with_reducible exact LeO.refl _)
   | (with_reducible exact LeO.none _)
   | (with_reducible refine LeO.ite ?_ ?_)
   | (with_reducible refine LeO.bind ?_ (fun _ => ?_))
   | exact ih0 _ _ _ _
   | exact LeO.none _
   | refine LeO.ite ?_ ?_
   | refine LeO.bind ?_ (fun _ => ?_)
set_option maxHeartbeats 8000000 in
set_option maxRecDepth 100000 in
theorem api_Int_40.calls (k : Nat) (A0 : Option Addr) (c0 : Nat) (l0 : List (S30)) (a1 : Unit) (r : List (S30)) (w : World) (hr0 : Kd.C k30 w A0 l0.length l0) (hc0 : l0.length ≤ c0) (h : api_Int_40.f k l0 a1 = some r) :
  Calls Try.prog 40 #[.slice A0 l0.length c0, .func (.func 41) #[] #[]] w fun e w' => ∃ v0_ : Value, e = .returned (v0_) ∧ Kd.S k30 30 w' w.heap.size (fun _ => True) v0_ r ∧ Below w.heap.size w w' := by
 have hu30 := Try.underlying30; have HR0 := az hr0; have HC0 := az hc0; clear hr0 hc0; have HB := az (Below.refl w.heap.size w); have H : (if 0 ≤ (l0.length : Int) then (if ((l0.length : Int) : Int).toNat ≤ 8796093022208 then (api_Int_40.l0 k (([] : List (S30))) l0 (l0.length : Int) 0) else (none)) else (none)) = some r := h; clear h
 by_cases c3 : 0 ≤ (l0.length : Int)
 ·
  rw [if_pos c3] at H; have c3b0 := eq_true c3; have c3b1 : decide (0 ≤ (l0.length : Int)) = true := decide_eq_true c3; clear c3
  by_cases c4 : ((l0.length : Int) : Int).toNat ≤ 8796093022208
  ·
   rw [if_pos c4] at H; have c4b0 := eq_true c4; have c4b1 : decide (((l0.length : Int) : Int).toNat ≤ 8796093022208) = true := decide_eq_true c4; clear c4; obtain ⟨y255, hy255⟩ : ∃ y_ : List (S30), y_ = (([] : List (S30))) := ⟨_, rfl⟩; replace H : (api_Int_40.l0 k y255 l0 (l0.length : Int) 0) = some r := by first | (rw [hy255]; with_reducible exact H) | (have H2_ := (Option.bind_some _ _).symm.trans H; rw [hy255]; with_reducible exact H2_) | (have H2_ := (Option.bind_some _ _).symm.trans H; with_reducible exact H2_) | with_reducible exact H | (rw [hy255]; exact H) | exact H
   have Ny255 := az hy255; clear hy255; have H' := az H; clear H
   go_enter Try.func40, Try.ntmps40
   go_wp2_with (first | ((with_reducible refine gate_dst (N := 10) rfl ?_); refine Kd.SX_make0 k30 _ 30 rfl (N := 10) rfl 32 _ _ rfl (l0.length : Int) rfl rfl Try.underlying32 (.agg #[(.bool false), (.slice none 0 0)]) 32 info30 rfl (by decide) (by omega) (ok := fun _ => True) trivial (by first | omega | exact of_decide_eq_true (by first | (with_reducible assumption) | assumption)) (Nat.le_trans (Nat.mul_le_mul_right _ (of_decide_eq_true (by first | (with_reducible assumption) | assumption) : (l0.length : Int).toNat ≤ 8796093022208)) (by omega)) (Below.refl _ _) (Nat.le_refl _) ?_; intro v256 w5 ho6 hb hg_ hnew_; clear hg_ hnew_; (first | rw [← Ny255.out] at ho6 | (simp only [Int.reduceToNat] at ho6; rw [← Ny255.out] at ho6)); have n0_ := az (Kd.S_lower ho6 (below_size zb)); have n1_ := az (below_step zb hb); clear HB; have HO257 := n0_; have HB := n1_; clear n0_ n1_ hb ho6))
   go_loopg [5, 13] k (fun kq v5 v13 w' => ∃ (x5_1 : List (S30)) (x13_1 : Int), v13 = .int .i64 x13_1 ∧ Aside0 (api_Int_40.l0 kq x5_1 l0 (l0.length : Int) x13_1 = some r) ∧ Aside0 (kq ≤ k) ∧ Aside0 (Kd.S k30 30 w' w.heap.size (fun _ => True) v5 x5_1) ∧ Aside0 (Below w.heap.size w w'))
   case atStart => exact ⟨(y255), (0), (by first | rfl | (simp; done) | (simp [*]; done)), H', ⟨Nat.le_refl _⟩, ⟨by (with_reducible repeat (first | apply Kd.S_alloc | apply Kd.S_drewN | apply Kd.S_drew)); exact HO257.out⟩, ⟨zb⟩⟩
   case round =>
    clear H'
    try clear p2
    try clear c3
    try clear c3b0
    try clear c3b1
    try clear c4
    try clear c4b0
    try clear c4b1
    obtain ⟨x5_1, x13_1, rfl, HA, HK1, HO_5, HB⟩ := hrel
    cases gk with
    | zero => exact absurd HA.out (by simp [api_Int_40.l0])
    | succ k1 =>
     have H := HA.out; clear HA; simp only [api_Int_40.l0] at H
     by_cases c7 : x13_1 < (l0.length : Int)
     ·
      rw [if_pos c7] at H; have c7b0 : decide (x13_1 < (l0.length : Int)) = true := decide_eq_true c7; clear c7
      by_cases c8 : 0 ≤ x13_1
      ·
       rw [if_pos c8] at H; have c8b0 : decide (0 ≤ x13_1) = true := decide_eq_true c8; clear c8
       by_cases c9 : x13_1 < (l0.length : Int)
       ·
        rw [if_pos c9] at H; have c9b0 : decide (x13_1 < (l0.length : Int)) = true := decide_eq_true c9; clear c9; replace H := Option.bind_eq_some_iff.mp H; obtain ⟨⟨t260, t261⟩, A100, H⟩ := H; replace H : (if x5_1.length < 4398046511104 then (api_Int_40.l0 k1 (x5_1 ++ [(⟨t260, t261⟩ : S30)]) l0 (l0.length : Int) (wrap64 (x13_1 + 1))) else (none)) = some r := H; have A10 := az A100; clear A100
        by_cases c11 : x5_1.length < 4398046511104
        ·
         rw [if_pos c11] at H; have LMc11 := az c11; clear c11; obtain ⟨y264, hy264⟩ : ∃ y_ : List (S30), y_ = (x5_1 ++ [(⟨t260, t261⟩ : S30)]) := ⟨_, rfl⟩; replace H : (api_Int_40.l0 k1 y264 l0 (l0.length : Int) (wrap64 (x13_1 + 1))) = some r := by first | (rw [hy264]; with_reducible exact H) | (have H2_ := (Option.bind_some _ _).symm.trans H; rw [hy264]; with_reducible exact H2_) | (have H2_ := (Option.bind_some _ _).symm.trans H; with_reducible exact H2_) | with_reducible exact H | (rw [hy264]; exact H) | exact H
         have Ny264 := az hy264; clear hy264; have H' := az H; clear H; have p258 : 0 ≤ (x13_1 : Int) := of_decide_eq_true (by first | (with_reducible assumption) | assumption); have q258 : x13_1 < (l0.length : Int) := of_decide_eq_true (by first | (with_reducible assumption) | assumption); obtain ⟨ad258, A258_1, c258_1, e258, hx258_0, hx258_1, hl258_1, hi258_1⟩ := at_T30 HR0.out x13_1 p258 q258
         cases e258
         replace hx258_0 := (HB.out.cell (World.block_lt_of_cell? w _ hx258_0)).trans hx258_0; replace hx258_1 := (HB.out.cell (World.block_lt_of_cell? w _ hx258_1)).trans hx258_1; have HR258_1 := az hi258_1; have HC258_1 := az hl258_1; clear hi258_1 hl258_1; replace p258 := eq_true p258; replace q258 := eq_true q258
         go_wp2_with (first | ((with_reducible refine gate_dst (N := 7) rfl ?_); refine box_event ?hg (N := 7) ?hd (cs := #[.bool false, .slice none 0 0]) (t := 30) ?hr ?_; (case hd => rfl); (case hg => rfl); (case hr => first | (go_simp; done) | (go_simp; rfl)); intro gb259 hg w12 hbox hb; have n0_ := az (Kd.S_below (Kd.S_elderB (zm HO_5.out) gb259 (Nat.le_of_eq hg.symm)) hb); have n1_ := az (below_step zb hb); have n2_ := az (hbox); have n3_ := az ((by rw [hg]; exact (below_size zb) : w.heap.size ≤ gb259)); have n4_ := az ((by rw [hg]; exact (below_size zb) : w.heap.size ≤ gb259)); clear HO_5 HB; have HO_5 := n0_; have HB := n1_; have BK259 := n2_; have GW259 := n3_; have GE259 := n4_; clear n0_ n1_ n2_ n3_ n4_ hb hbox hg; have hcz13_0 : w12.cell? ⟨gb259, 0, none⟩ = some (.bool false) := (blk_cell BK259.out 0).trans rfl; have hcz13_1 : w12.cell? ⟨gb259, 1, none⟩ = some (.slice none 0 0) := (blk_cell BK259.out 1).trans rfl; have hfz13_0 := blk_frozen BK259.out 0; have hfz13_1 := blk_frozen BK259.out 1) | ((with_reducible refine gate_calleeV (p := 18) (f := 41) rfl rfl ?_); refine goesLV_ (p := 18) (some 20) rfl rfl rfl Try.func41 (by kernel_rfl) rfl #[.agg #[.bool ((rd_T30 l0 x13_1).f0), .slice A258_1 ((rd_T30 l0 x13_1).f1).length c258_1]] rfl zg ?_; (with_reducible refine (zint_Form.calls ((rd_T30 l0 x13_1).f0) _ _ ((rd_T30 l0 x13_1).f1) t260 t261 _ ?side1 ?side2 (zh A10.out)).mono ?_); (case side1 => exact Kd.C_below HR258_1.out zb); (case side2 => exact HC258_1.out); rintro e w14 ⟨v262, rfl, ho0, hb⟩; refine ⟨_, rfl, ?_⟩; have n0_ := az (Kd.S_elder' (by (with_reducible repeat (first | apply Kd.S_alloc | apply Kd.S_drewN | apply Kd.S_drew)); exact (Kd.S_mono (Kd.S_far (p := ⟨gb259, 1, none⟩) (Kd.S_far (p := ⟨gb259, 0, none⟩) (Kd.S_mono HO_5.out (fun k_ hk => (⟨hk, hk.2⟩ : _ ∧ k_ ≠ gb259))) (fun _ hk => hk.2) (.bool ((rd_T30 l0 x13_1).f0))) (fun _ hk => hk.2) (.slice A258_1 ((rd_T30 l0 x13_1).f1).length c258_1)) (fun _ h_ => h_.1))) (Kd.R_base ho0) hb); have n1_ := az (Kd.R_lower ho0 (below_size zb)); have n2_ := az (blk_below (g := gb259) (o := .cells #[.bool ((rd_T30 l0 x13_1).f0), .slice A258_1 ((rd_T30 l0 x13_1).f1).length c258_1] 30 (0, 0)) (by (with_reducible repeat (first | refine blk_drewN ?_ _ | refine blk_drew ?_ | refine blk_alloc ?_ _)); refine blk_put (cs := #[.bool ((rd_T30 l0 x13_1).f0), .slice none 0 0]) ?_ 1 _ rfl; (with_reducible repeat (first | refine blk_drewN ?_ _ | refine blk_drew ?_ | refine blk_alloc ?_ _)); refine blk_put (cs := #[.bool false, .slice none 0 0]) ?_ 0 _ rfl; exact zn BK259.out) hb); have n3_ := az (below_step zb hb); clear HO_5 BK259 HB; have HO_5 := n0_; have HO263 := n1_; have BK259 := n2_; have HB := n3_; clear n0_ n1_ n2_ n3_; (try clear hb); (try clear hb2); (try clear hk); (try clear hi); (try clear ho0); obtain ⟨Ao16, co16, eo16⟩ := Kd.R_slice HO263.out; subst eo16) | ((with_reducible refine gate_builtin (b := .append) (xs := #[.tmp 17, .tmp 21]) rfl ?_); at_builtin; refine Kd.S_append k30 (w0 := w) w.heap.size rfl (.tmp 17) (.tmp 21) 32 30 (.agg #[(.bool false), (.slice none 0 0)]) 32 rfl Try.underlying32 info30 rfl (by decide) (by omega) u5 x5_1 (⟨t260, t261⟩ : S30) [.bool t260, .slice Ao16 t261.length co16] (fun k_ => k_ ≠ gb259) (fun k_ => some k_ = (.slice Ao16 t261.length co16 : Value).ownBlock) rfl rfl ?aP (fun k_ hk_ => ((Kd.R_mono (ok' := fun k_ => ((fun k_ => k_ ≠ gb259)) k_ ∧ some k_ ≠ (u5 : Value).ownBlock) (Kd.R_types (Kd.R_apart' (HO263.out) (Kd.S_typed HO_5.out) (by decide)) BK259.out (by decide)) (fun k_ hk => ⟨hk.2, hk.1.2⟩))).1 k_ hk_.symm) ?aF ?aO ?aB ?aS ?aL ?_; (case aP => exact k30_mkM _ _ _ (⟨t260, t261⟩ : S30) (Kd.R_mono (Kd.R_tight rfl (Kd.R_mono (ok' := fun k_ => ((fun k_ => k_ ≠ gb259)) k_ ∧ some k_ ≠ (u5 : Value).ownBlock) (Kd.R_types (Kd.R_apart' (HO263.out) (Kd.S_typed HO_5.out) (by decide)) BK259.out (by decide)) (fun k_ hk => ⟨hk.2, hk.1.2⟩))) (fun _ h_ => h_))); (case aB => exact zb); (case aF => exact (fun k_ hk => Kd.freshB (g := gb259) (o := .cells #[.bool ((rd_T30 l0 x13_1).f0), .slice A258_1 ((rd_T30 l0 x13_1).f1).length c258_1] 30 (0, 0)) (zm BK259.out) k_ hk)); (case aO => exact (by (with_reducible repeat (first | apply Kd.S_alloc | apply Kd.S_drewN | apply Kd.S_drew)); exact Kd.S_mono HO_5.out (fun k_ hk => ⟨hk.1.2, fun e_ => hk.2 e_⟩))); (case aS => exact (below_size zb)); (case aL => have := LMc11.out; omega); intro v265 w15 ho hb hg hat; rw [← Ny264.out] at ho; have n0_ := az (blk_grown (g := gb259) (o := .cells #[.bool ((rd_T30 l0 x13_1).f0), .slice A258_1 ((rd_T30 l0 x13_1).f1).length c258_1] 30 (0, 0)) (zm BK259.out) hg (Kd.S_away HO_5.out (fun _ hk => hk.1.2))); have n1_ := az (hb); have n2_ := az (ho); clear BK259 HB HO_5 HO263; have BK259 := n0_; have HB := n1_; have HO266 := n2_; clear n0_ n1_ n2_ ho hb hg hat))
         go_roundg k1
         case measure => have := HK1.out; omega
         case rel => exact ⟨(y264), (wrap64 (x13_1 + 1)), (by first | rfl | (simp; done) | (simp [*]; done)), H', ⟨by have := HK1.out; omega⟩, ⟨by (with_reducible repeat (first | apply Kd.S_alloc | apply Kd.S_drewN | apply Kd.S_drew)); exact Kd.S_mono HO266.out (fun _ hk => trivial)⟩, ⟨zb⟩⟩
        · rw [if_neg c11] at H; exact absurd H (by simp)
       · rw [if_neg c9] at H; exact absurd H (by simp)
      · rw [if_neg c8] at H; exact absurd H (by simp)
     ·
      rw [if_neg c7] at H; have c7b0 : decide (x13_1 < (l0.length : Int)) = false := decide_eq_false c7; clear c7; obtain rfl := Option.some.inj H
      go_wp2
      go_ret
      exact ⟨_, by first | rfl | (simp [errW_none, errW_some] <;> rfl) | (simp [*, errW_none, errW_some] <;> rfl), zm HO_5.out, zb⟩
  · rw [if_neg c4] at H; exact absurd H (by simp)
 · rw [if_neg c3] at H; exact absurd H (by simp)

/-! ### mat_Form_1: function 39 -/
def mat_Form_1.f (k : Nat) (l0 : List (S30)) : Option ((List (S30))) := (api_Int_40.f k l0 ()).bind fun t267 => (some t267)
theorem mat_Form_1.mono : ∀ a0 k, LeO (mat_Form_1.f k a0) (mat_Form_1.f (k + 1) a0) := by
 intro a0 k; unfold mat_Form_1.f
 repeat' first
   | (with_reducible exact api_Int_40.mono _ _ _)
   | (with_reducible exact LeO.refl _)
   | (with_reducible exact LeO.none _)
   | (with_reducible refine LeO.ite ?_ ?_)
   | (with_reducible refine LeO.bind ?_ (fun _ => ?_))
   | exact api_Int_40.mono _ _ _
   | exact LeO.none _
   | refine LeO.ite ?_ ?_
   | refine LeO.bind ?_ (fun _ => ?_)
set_option maxHeartbeats 8000000 in
set_option maxRecDepth 100000 in
theorem mat_Form_1.calls (k : Nat) (A0 : Option Addr) (c0 : Nat) (l0 : List (S30)) (r : List (S30)) (w : World) (hr0 : Kd.C k30 w A0 l0.length l0) (hc0 : l0.length ≤ c0) (h : mat_Form_1.f k l0 = some r) :
  Calls Try.prog 39 #[.slice A0 l0.length c0] w fun e w' => ∃ v0_ : Value, e = .returned (v0_) ∧ Kd.S k30 30 w' w.heap.size (fun _ => True) v0_ r ∧ Below w.heap.size w w' := by
 have HR0 := az hr0; have HC0 := az hc0; clear hr0 hc0; have HB := az (Below.refl w.heap.size w); have H : ((api_Int_40.f k l0 ()).bind fun t267 => (some t267)) = some r := h; clear h; replace H := Option.bind_eq_some_iff.mp H; obtain ⟨t267, A20, H⟩ := H; replace H : (some t267) = some r := H; have A2 := az A20; clear A20; obtain rfl := Option.some.inj H
 go_enter Try.func39, Try.ntmps39
 go_wp2_with (first | ((with_reducible refine gate_callee (f := 40) rfl ?_); refine goesL_ (some 4) rfl rfl Try.func40 (by kernel_rfl) rfl #[.slice A0 l0.length c0, .func (.func 41) #[] #[]] rfl zg ?_; (with_reducible refine (api_Int_40.calls k _ _ l0 () t267 _ ?side1 ?side2 (zh A2.out)).mono ?_); (case side1 => exact zc HR0.out); (case side2 => exact HC0.out); rintro e w3 ⟨v268, rfl, ho0, hb⟩; refine ⟨_, rfl, ?_⟩; have n0_ := az (Kd.S_lower ho0 (below_size zb)); have n1_ := az (below_step zb hb); clear HB; have HO269 := n0_; have HB := n1_; clear n0_ n1_; (try clear hb); (try clear hb2); (try clear hk); (try clear hi); (try clear ho0)))
 go_ret
 exact ⟨_, by first | rfl | (simp [errW_none, errW_some] <;> rfl) | (simp [*, errW_none, errW_some] <;> rfl), zm HO269.out, zb⟩

/-! ### api_Int_38: function 38 -/
def api_Int_38.l0 : Nat → List (List (S30)) → List (List (S30)) → Int → Int → Option ((List (List (S30))))
 | 0, _, _, _, _ => none
 | k + 1, x5, x11, x12, x13 => if x13 < x12 then (if 0 ≤ x13 then (if x13 < (x11.length : Int) then ((mat_Form_1.f k (rd_L5 x11 x13)).bind fun t274 => (if x5.length < 5864062014805 then (api_Int_38.l0 k (x5 ++ [t274]) x11 x12 (wrap64 (x13 + 1))) else (none))) else (none)) else (none)) else (some x5)
def api_Int_38.f (k : Nat) (l0 : List (List (S30))) (a1 : Unit) : Option ((List (List (S30)))) := if 0 ≤ (l0.length : Int) then (if ((l0.length : Int) : Int).toNat ≤ 11728124029610 then (api_Int_38.l0 k (([] : List (List (S30)))) l0 (l0.length : Int) 0) else (none)) else (none)
theorem api_Int_38.mono_l : ∀ k, (∀ y0 y1 y2 y3, LeO (api_Int_38.l0 k y0 y1 y2 y3) (api_Int_38.l0 (k + 1) y0 y1 y2 y3))
 | 0 => fun _ _ _ _ r h => by simp [api_Int_38.l0] at h
 | k + 1 => by
  have ih0 := api_Int_38.mono_l k; ·
   intro y0 y1 y2 y3; unfold api_Int_38.l0
   repeat' first
   | (with_reducible exact ih0 _ _ _ _)
   | (with_reducible exact mat_Form_1.mono _ _)
   | (with_reducible exact LeO.refl _)
   | (with_reducible exact LeO.none _)
   | (with_reducible refine LeO.ite ?_ ?_)
   | (with_reducible refine LeO.bind ?_ (fun _ => ?_))
   | exact ih0 _ _ _ _
   | exact mat_Form_1.mono _ _
   | exact LeO.none _
   | refine LeO.ite ?_ ?_
   | refine LeO.bind ?_ (fun _ => ?_)
theorem api_Int_38.mono : ∀ a0 a1 k, LeO (api_Int_38.f k a0 a1) (api_Int_38.f (k + 1) a0 a1) := by
 intro a0 a1 k; have ih0 := api_Int_38.mono_l k; unfold api_Int_38.f
 repeat' first
   | (with_reducible exact ih0 _ _ _ _)
   | (with_reducible exact mat_Form_1.mono _ _)
   | (with_reducible exact LeO.refl _)
   | (with_reducible exact LeO.none _)
   | (with_reducible refine LeO.ite ?_ ?_)
   | (with_reducible refine LeO.bind ?_ (fun _ => ?_))
   | exact ih0 _ _ _ _
   | exact mat_Form_1.mono _ _
   | exact LeO.none _
   | refine LeO.ite ?_ ?_
   | refine LeO.bind ?_ (fun _ => ?_)
set_option maxHeartbeats 8000000 in
set_option maxRecDepth 100000 in
theorem api_Int_38.calls (k : Nat) (A0 : Option Addr) (c0 : Nat) (l0 : List (List (S30))) (a1 : Unit) (r : List (List (S30))) (w : World) (hr0 : Kd.C (Kd.slice 30 k30) w A0 l0.length l0) (hc0 : l0.length ≤ c0) (h : api_Int_38.f k l0 a1 = some r) :
  Calls Try.prog 38 #[.slice A0 l0.length c0, .func (.func 39) #[] #[]] w fun e w' => ∃ v0_ : Value, e = .returned (v0_) ∧ Kd.R (Kd.slice 30 k30) 32 w' w.heap.size (fun _ => True) v0_ r ∧ Below w.heap.size w w' := by
 have HR0 := az hr0; have HC0 := az hc0; clear hr0 hc0; have HB := az (Below.refl w.heap.size w); have H : (if 0 ≤ (l0.length : Int) then (if ((l0.length : Int) : Int).toNat ≤ 11728124029610 then (api_Int_38.l0 k (([] : List (List (S30)))) l0 (l0.length : Int) 0) else (none)) else (none)) = some r := h; clear h
 by_cases c3 : 0 ≤ (l0.length : Int)
 ·
  rw [if_pos c3] at H; have c3b0 := eq_true c3; have c3b1 : decide (0 ≤ (l0.length : Int)) = true := decide_eq_true c3; clear c3
  by_cases c4 : ((l0.length : Int) : Int).toNat ≤ 11728124029610
  ·
   rw [if_pos c4] at H; have c4b0 := eq_true c4; have c4b1 : decide (((l0.length : Int) : Int).toNat ≤ 11728124029610) = true := decide_eq_true c4; clear c4; obtain ⟨y270, hy270⟩ : ∃ y_ : List (List (S30)), y_ = (([] : List (List (S30)))) := ⟨_, rfl⟩; replace H : (api_Int_38.l0 k y270 l0 (l0.length : Int) 0) = some r := by first | (rw [hy270]; with_reducible exact H) | (have H2_ := (Option.bind_some _ _).symm.trans H; rw [hy270]; with_reducible exact H2_) | (have H2_ := (Option.bind_some _ _).symm.trans H; with_reducible exact H2_) | with_reducible exact H | (rw [hy270]; exact H) | exact H
   have Ny270 := az hy270; clear hy270; have H' := az H; clear H
   go_enter Try.func38, Try.ntmps38
   go_wp2_with (first | ((with_reducible refine gate_dst (N := 10) rfl ?_); refine Kd.RX_make0 (Kd.slice 30 k30) _ 32 rfl (N := 10) rfl 22 _ _ rfl (l0.length : Int) rfl rfl Try.underlying22 (.slice none 0 0) 24 info32 rfl (by decide) (by omega) (ok := fun _ => True) trivial (by first | omega | exact of_decide_eq_true (by first | (with_reducible assumption) | assumption)) (Nat.le_trans (Nat.mul_le_mul_right _ (of_decide_eq_true (by first | (with_reducible assumption) | assumption) : (l0.length : Int).toNat ≤ 11728124029610)) (by omega)) (Below.refl _ _) (Nat.le_refl _) ?_; intro v271 w5 ho6 hb hg_ hnew_; clear hg_ hnew_; (first | rw [← Ny270.out] at ho6 | (simp only [Int.reduceToNat] at ho6; rw [← Ny270.out] at ho6)); have n0_ := az (Kd.R_lower ho6 (below_size zb)); have n1_ := az (below_step zb hb); clear HB; have HO272 := n0_; have HB := n1_; clear n0_ n1_ hb ho6))
   go_loopg [5, 13] k (fun kq v5 v13 w' => ∃ (x5_1 : List (List (S30))) (x13_1 : Int), v13 = .int .i64 x13_1 ∧ Aside0 (api_Int_38.l0 kq x5_1 l0 (l0.length : Int) x13_1 = some r) ∧ Aside0 (kq ≤ k) ∧ Aside0 (Kd.R (Kd.slice 30 k30) 32 w' w.heap.size (fun _ => True) v5 x5_1) ∧ Aside0 (Below w.heap.size w w'))
   case atStart => exact ⟨(y270), (0), (by first | rfl | (simp; done) | (simp [*]; done)), H', ⟨Nat.le_refl _⟩, ⟨by (with_reducible repeat (first | apply Kd.R_alloc | apply Kd.R_drewN | apply Kd.R_drew)); exact HO272.out⟩, ⟨zb⟩⟩
   case round =>
    clear H'
    try clear p2
    try clear c3
    try clear c3b0
    try clear c3b1
    try clear c4
    try clear c4b0
    try clear c4b1
    obtain ⟨x5_1, x13_1, rfl, HA, HK1, HO_5, HB⟩ := hrel
    cases gk with
    | zero => exact absurd HA.out (by simp [api_Int_38.l0])
    | succ k1 =>
     have H := HA.out; clear HA; simp only [api_Int_38.l0] at H
     by_cases c7 : x13_1 < (l0.length : Int)
     ·
      rw [if_pos c7] at H; have c7b0 : decide (x13_1 < (l0.length : Int)) = true := decide_eq_true c7; clear c7
      by_cases c8 : 0 ≤ x13_1
      ·
       rw [if_pos c8] at H; have c8b0 : decide (0 ≤ x13_1) = true := decide_eq_true c8; clear c8
       by_cases c9 : x13_1 < (l0.length : Int)
       ·
        rw [if_pos c9] at H; have c9b0 : decide (x13_1 < (l0.length : Int)) = true := decide_eq_true c9; clear c9; replace H := Option.bind_eq_some_iff.mp H; obtain ⟨t274, A100, H⟩ := H; replace H : (if x5_1.length < 5864062014805 then (api_Int_38.l0 k1 (x5_1 ++ [t274]) l0 (l0.length : Int) (wrap64 (x13_1 + 1))) else (none)) = some r := H; have A10 := az A100; clear A100
        by_cases c11 : x5_1.length < 5864062014805
        ·
         rw [if_pos c11] at H; have LMc11 := az c11; clear c11; obtain ⟨y277, hy277⟩ : ∃ y_ : List (List (S30)), y_ = (x5_1 ++ [t274]) := ⟨_, rfl⟩; replace H : (api_Int_38.l0 k1 y277 l0 (l0.length : Int) (wrap64 (x13_1 + 1))) = some r := by first | (rw [hy277]; with_reducible exact H) | (have H2_ := (Option.bind_some _ _).symm.trans H; rw [hy277]; with_reducible exact H2_) | (have H2_ := (Option.bind_some _ _).symm.trans H; with_reducible exact H2_) | with_reducible exact H | (rw [hy277]; exact H) | exact H
         have Ny277 := az hy277; clear hy277; have H' := az H; clear H; have p273 : 0 ≤ (x13_1 : Int) := of_decide_eq_true (by first | (with_reducible assumption) | assumption); have q273 : x13_1 < (l0.length : Int) := of_decide_eq_true (by first | (with_reducible assumption) | assumption); obtain ⟨ad273, A273_0, c273_0, e273, hx273_0, hl273_0, hi273_0⟩ := at_L5 HR0.out x13_1 p273 q273
         cases e273
         replace hx273_0 := (HB.out.cell (World.block_lt_of_cell? w _ hx273_0)).trans hx273_0; have HR273_0 := az hi273_0; have HC273_0 := az hl273_0; clear hi273_0 hl273_0; replace p273 := eq_true p273; replace q273 := eq_true q273
         go_wp2_with (first | ((with_reducible refine gate_calleeV (p := 18) (f := 39) rfl rfl ?_); refine goesLV_ (p := 18) (some 20) rfl rfl rfl Try.func39 (by kernel_rfl) rfl #[.slice A273_0 (rd_L5 l0 x13_1).length c273_0] rfl zg ?_; (with_reducible refine (mat_Form_1.calls k1 _ _ (rd_L5 l0 x13_1) t274 _ ?side1 ?side2 (zh A10.out)).mono ?_); (case side1 => exact zc (Kd.C_below HR273_0.out HB.out)); (case side2 => exact HC273_0.out); rintro e w12 ⟨v275, rfl, ho0, hb⟩; refine ⟨_, rfl, ?_⟩; have n0_ := az (Kd.R_elder' (zm HO_5.out) (Kd.S_base ho0) hb); have n1_ := az (Kd.S_lower ho0 (below_size zb)); have n2_ := az (below_step zb hb); clear HO_5 HB; have HO_5 := n0_; have HO276 := n1_; have HB := n2_; clear n0_ n1_ n2_; (try clear hb); (try clear hb2); (try clear hk); (try clear hi); (try clear ho0); obtain ⟨Ao14, co14, eo14⟩ := Kd.S_slice HO276.out; subst eo14) | ((with_reducible refine gate_builtin (b := .append) (xs := #[.tmp 17, .tmp 21]) rfl ?_); at_builtin; refine Kd.R_append (Kd.slice 30 k30) (w0 := w) w.heap.size rfl (.tmp 17) (.tmp 21) 22 32 (.slice none 0 0) 24 rfl Try.underlying22 info32 rfl (by decide) (by omega) u5 x5_1 t274 [.slice Ao14 t274.length co14] (fun _ => True) (fun k_ => ((fun _ => True)) k_ ∧ some k_ ≠ (u5 : Value).ownBlock) rfl rfl ?aP (fun _ hk => hk) ?aF ?aO ?aB ?aS ?aL ?_; (case aP => exact Kd.M_row (Kd.R_mono (Kd.R_apart' ((Kd.S_R HO276.out)) (Kd.R_typed HO_5.out) (by decide)) (fun k_ hk => ⟨trivial, hk.2⟩))); (case aB => exact zb); (case aF => exact (fun _ _ => trivial)); (case aO => exact (by (with_reducible repeat (first | apply Kd.R_alloc | apply Kd.R_drewN | apply Kd.R_drew)); exact Kd.R_mono HO_5.out (fun _ hk => trivial))); (case aS => exact (below_size zb)); (case aL => have := LMc11.out; omega); intro v278 w13 ho hb hg hat; rw [← Ny277.out] at ho; have n0_ := az (hb); have n1_ := az (ho); clear HB HO_5 HO276; have HB := n0_; have HO279 := n1_; clear n0_ n1_ ho hb hg hat))
         go_roundg k1
         case measure => have := HK1.out; omega
         case rel => exact ⟨(y277), (wrap64 (x13_1 + 1)), (by first | rfl | (simp; done) | (simp [*]; done)), H', ⟨by have := HK1.out; omega⟩, ⟨by (with_reducible repeat (first | apply Kd.R_alloc | apply Kd.R_drewN | apply Kd.R_drew)); exact HO279.out⟩, ⟨zb⟩⟩
        · rw [if_neg c11] at H; exact absurd H (by simp)
       · rw [if_neg c9] at H; exact absurd H (by simp)
      · rw [if_neg c8] at H; exact absurd H (by simp)
     ·
      rw [if_neg c7] at H; have c7b0 : decide (x13_1 < (l0.length : Int)) = false := decide_eq_false c7; clear c7; obtain rfl := Option.some.inj H
      go_wp2
      go_ret
      exact ⟨_, by first | rfl | (simp [errW_none, errW_some] <;> rfl) | (simp [*, errW_none, errW_some] <;> rfl), zm HO_5.out, zb⟩
  · rw [if_neg c4] at H; exact absurd H (by simp)
 · rw [if_neg c3] at H; exact absurd H (by simp)

/-! ### mat_Form: function 22 -/
def mat_Form.f (k : Nat) (l0 : List (List (S30))) : Option ((List (List (S30)))) := (api_Int_38.f k l0 ()).bind fun t280 => (some t280)
theorem mat_Form.mono : ∀ a0 k, LeO (mat_Form.f k a0) (mat_Form.f (k + 1) a0) := by
 intro a0 k; unfold mat_Form.f
 repeat' first
   | (with_reducible exact api_Int_38.mono _ _ _)
   | (with_reducible exact LeO.refl _)
   | (with_reducible exact LeO.none _)
   | (with_reducible refine LeO.ite ?_ ?_)
   | (with_reducible refine LeO.bind ?_ (fun _ => ?_))
   | exact api_Int_38.mono _ _ _
   | exact LeO.none _
   | refine LeO.ite ?_ ?_
   | refine LeO.bind ?_ (fun _ => ?_)
set_option maxHeartbeats 8000000 in
set_option maxRecDepth 100000 in
theorem mat_Form.calls (k : Nat) (A0 : Option Addr) (c0 : Nat) (l0 : List (List (S30))) (r : List (List (S30))) (w : World) (hr0 : Kd.C (Kd.slice 30 k30) w A0 l0.length l0) (hc0 : l0.length ≤ c0) (h : mat_Form.f k l0 = some r) :
  Calls Try.prog 22 #[.slice A0 l0.length c0] w fun e w' => ∃ v0_ : Value, e = .returned (v0_) ∧ Kd.R (Kd.slice 30 k30) 32 w' w.heap.size (fun _ => True) v0_ r ∧ Below w.heap.size w w' := by
 have HR0 := az hr0; have HC0 := az hc0; clear hr0 hc0; have HB := az (Below.refl w.heap.size w); have H : ((api_Int_38.f k l0 ()).bind fun t280 => (some t280)) = some r := h; clear h; replace H := Option.bind_eq_some_iff.mp H; obtain ⟨t280, A20, H⟩ := H; replace H : (some t280) = some r := H; have A2 := az A20; clear A20; obtain rfl := Option.some.inj H
 go_enter Try.func22, Try.ntmps22
 go_wp2_with (first | ((with_reducible refine gate_callee (f := 38) rfl ?_); refine goesL_ (some 4) rfl rfl Try.func38 (by kernel_rfl) rfl #[.slice A0 l0.length c0, .func (.func 39) #[] #[]] rfl zg ?_; (with_reducible refine (api_Int_38.calls k _ _ l0 () t280 _ ?side1 ?side2 (zh A2.out)).mono ?_); (case side1 => exact zc HR0.out); (case side2 => exact HC0.out); rintro e w3 ⟨v281, rfl, ho0, hb⟩; refine ⟨_, rfl, ?_⟩; have n0_ := az (Kd.R_lower ho0 (below_size zb)); have n1_ := az (below_step zb hb); clear HB; have HO282 := n0_; have HB := n1_; clear n0_ n1_; (try clear hb); (try clear hb2); (try clear hk); (try clear hi); (try clear ho0)))
 go_ret
 exact ⟨_, by first | rfl | (simp [errW_none, errW_some] <;> rfl) | (simp [*, errW_none, errW_some] <;> rfl), zm HO282.out, zb⟩

end Go.Proofs.Ytebfblpoeeiagaa.QL
