/- Contracts of package zint: numbers made, signs, order. -/
import Derived.Test.YtaagioghkicdkaaZintA
import Derived.Deep.RegionHeld3
set_option linter.unusedVariables false
set_option linter.unusedSimpArgs false
namespace Go.Proofs.Ytaagioghkicdkaa
open Go.RowKit Go.Proofs.YtaagioghkicdkaaW.PrintWords Mt

theorem gate_builtin' {P : Program} {ops : Array Oper} {rest : List Oper} {o : Oper} {a : Act} {Q : Exit → Act → World → Prop} {W : World} {b : Builtin} {xs : Array Operand} {ts : Array TypeId} (_ho : o.op = .call { callee := .builtin b, args := xs, argTypes := ts }) (h : wpList P ops Q (o :: rest) a W) : wpList P ops Q (o :: rest) a W := h

set_option maxRecDepth 100000 in
set_option maxHeartbeats 800000 in
theorem zint_made (s : Bool) (A : Option Addr) (n c N : Nat) (w : World) (h : RN w A n c N) (hs : n ≤ 35184372088832) :
    Calls Try.prog 125 #[.bool s, .slice A n c] w fun e w' => RetI w w' e (intv s N) := by
  obtain ⟨hn, xs, hr, hl, hv⟩ := h
  have hbig := hr.2.1
  have HA := Lib.hid hr
  have HX := Lib.hid hl
  have HL := Lib.hid (show xs.length = n from hr.1)
  have HV := Lib.hid hv
  have HT := Lib.hid (show tl xs n = lim N from (CN.mk hn hr hl hv).len)
  have HT2 := Lib.hid (show xs.take (tl xs n) = dig N from dig_of (hl.take _) (tl_can (by rw [hr.1]; exact Nat.le_refl _)) (by rw [tl_val (by rw [hr.1]; exact Nat.le_refl _), ← hr.1, List.take_length]; exact hv))
  clear hr hl hv
  go_enter Try.func125, Try.ntmps125
  go_wp2
  go_loopw [5] (fun i wr => ∃ k : Nat, k ≤ n ∧ i = .int .i64 k ∧ tl xs k = tl xs n ∧ wr = w.alloc (.cells #[.bool false, .slice none 0 0] 31)) (fun i _ => (intOf i).toNat)
  case atStart => exact ⟨n, Nat.le_refl _, rfl, rfl, rfl⟩
  case round =>
    obtain ⟨k, hk, rfl, ht, rfl⟩ := hrel
    have HK := Lib.hid ht
    clear ht
    rcases Nat.eq_zero_or_pos k with h0 | h0
    · subst h0
      have hN : N = 0 := by
        have h1 := HT.out
        rw [← HK.out] at h1
        have := dig_val N
        rw [List.eq_nil_of_length_eq_zero (show (dig N).length = 0 from h1.symm)] at this
        simp [val] at this; omega
      subst hN
      go_wp2
      refine bodyPost_ret (v := .agg #[.bool false, .slice none 0 0]) (by simp [results, Try.results125, go_sem]) rfl ?_
      exact ⟨false, none, 0, 0, rfl, by rw [show intv s 0 = 0 from by unfold intv; split <;> rfl]; exact cI_nought _ _ _, ((Below.refl _ _).alloc (Nat.le_refl _) _)⟩
    · obtain ⟨m, rfl⟩ : ∃ m, k = m + 1 := ⟨k - 1, by omega⟩
      obtain ⟨ad, rfl, hx⟩ := HA.out.at_ m (by omega) (by omega)
      have hx := pw_cell_below ((Below.refl _ w).alloc (Nat.le_refl _) (.cells #[.bool false, .slice none 0 0] 31)) hx
      simp only [Int.toNat_natCast, rd_at] at hx
      by_cases hz : at_ xs m = 0
      · have hz' : (at_ xs m == 0) = true := by simpa using hz
        have HZ := Lib.hid hz
        clear hz
        go_wp2
        go_roundw
        case rel => exact ⟨m, by omega, by go_num, by rw [← HK.out, tl, if_pos HZ.out]; exact ⟨rfl, trivial⟩⟩
        case measure => simp [intOf]
      · have hz' : (at_ xs m == 0) = false := by simpa using hz
        have hne : ((m : Int) + 1 == 0) = false := by rw [beq_eq_false_iff_ne]; omega
        have mk := print_make (P := Try.prog) 29 93 .u32 4 Try.underlying29 infoU32 (by omega) (m + 1) (by omega)
        simp only [Int.natCast_add, Int.cast_ofNat_Int] at mk
        have hm1 : m + 1 = lim N := by rw [← HT.out, ← HK.out, tl, if_neg (by simpa using hz')]
        have HM := Lib.hid hm1
        have HS := Lib.hid (intv_sgn s (N := N) (by intro h; rw [h, lim_zero] at hm1; omega))
        have HV2 := Lib.hid (show xs.take (m + 1) = dig N by rw [← HT2.out, HT.out, ← hm1])
        clear hm1
        have hown : ((w.alloc (.cells #[.bool false, .slice none 0 0] 31)).alloc (.cells (madeCells #[.int .u32 0] (m + 1)) 93)).ownsRow w.heap.size 93 1 (.slice (some ⟨w.heap.size + 1, 0, none⟩) (m + 1) (m + 1)) (m + 1) (nums .u32 (List.replicate (m + 1) 0)) ∧ _ ∧ _ ∧ _ ∧ _ :=
          ⟨by have h := own_made (w.alloc (.cells #[.bool false, .slice none 0 0] 31)) w.heap.size 93 .u32 (m + 1) (by simp) (by omega); rw [World.size_alloc] at h; exact h,
            (show ∀ k, (Value.slice (some ⟨w.heap.size + 1, 0, none⟩) (m + 1) (m + 1)).ownBlock = some k → k = w.heap.size + 1 from fun k hk => by simp [Value.ownBlock] at hk; exact hk.symm),
            (HA.out.below ((Below.refl _ w).alloc (Nat.le_refl _) (.cells #[.bool false, .slice none 0 0] 31))).below ((Below.refl _ _).alloc (Nat.le_refl _) (.cells (madeCells #[.int .u32 0] (m + 1)) 93)),
            ((Below.refl _ w).alloc (Nat.le_refl _) (.cells #[.bool false, .slice none 0 0] 31)).alloc (by simp) (.cells (madeCells #[.int .u32 0] (m + 1)) 93),
            (show w.heap.size ≤ ((w.alloc (.cells #[.bool false, .slice none 0 0] 31)).alloc (.cells (madeCells #[.int .u32 0] (m + 1)) 93)).heap.size by simp; omega)⟩
        have HOWN := Lib.hid hown
        clear hown
        go_wp2_with ((with_reducible refine gate_builtin' (b := .copy) (xs := #[.tmp 26, .tmp 27]) rfl ?_); refine Kd.R_copy (enc := Value.int .u32) (h1 := fun _ => rfl) (0 : Int) (w0 := w) w.heap.size rfl (.tmp 26) (.tmp 27) 29 29 93 rfl Try.underlying29 (by kernel_rfl) (.slice (some ⟨w.heap.size + 1, 0, none⟩) (m + 1) (m + 1)) (List.replicate (m + 1) 0) xs (some ad) n c (fun k => k = w.heap.size + 1) rfl rfl (Kd.R_of_own (by rw [List.length_replicate]; exact HOWN.out.1) HOWN.out.2.1) (Kd.C_of_reads (d := (0 : Int)) HOWN.out.2.2.1) HOWN.out.2.2.2.1 HOWN.out.2.2.2.2 (fun w1 hrow hb hg => ?_); go_loud ((have hg0 := hg.block w.heap.size (by simp; omega) (by simp [Value.ownBlock])); obtain ⟨b1, b2, b3, b4⟩ := blk2 (w := w1) (g := w.heap.size) (a := .bool false) (b := .slice none 0 0) (t := 31) (by rw [hg0, Below.heap_alloc _ _ _ (by simp)]; exact heap_alloc_new _ _); (have hz := hg.size); simp only [World.size_alloc] at hz; (have HROW := Lib.hid hrow); (have HBB := Lib.hid hb); clear hrow hb hg hg0))
        refine bodyPost_ret (v := .agg #[.bool s, .slice (some ⟨w.heap.size + 1, 0, none⟩) (m + 1) (m + 1)]) (by simp [results, Try.results125, go_sem, b1, b2, b3, b4, hz]) rfl ?_
        have hR2 := Kd.R_far (p := ⟨w.heap.size, 1, none⟩) (Kd.R_far (p := ⟨w.heap.size, 0, none⟩) HROW.out (fun k hk => by show k ≠ w.heap.size; omega) (.bool s)) (fun k hk => by show k ≠ w.heap.size; omega) (.slice (some ⟨w.heap.size + 1, 0, none⟩) (m + 1) (m + 1))
        refine ⟨s, _, _, _, rfl, cI_mkR (Kd.R_mono hR2 (fun _ _ => trivial)) ?_ HS.out, (HBB.out.setCell (Nat.le_refl _) _).setCell (Nat.le_refl _) _⟩
        rw [intv_natAbs, ← HV2.out]
        have hl : (xs.take (m + 1)).length = m + 1 := by rw [HV2.out]; exact HM.out.symm
        rw [List.length_take] at hl
        rw [List.length_replicate, show min n (m + 1) = m + 1 from by rw [← HL.out]; omega, List.drop_of_length_le (by simp), List.append_nil]

/-- A struct that came in by value, boxed; a result's place. -/
def bx (w : World) (s : Bool) (A : Option Addr) (n c : Nat) : World := w.alloc (.cells #[.bool s, .slice A n c] 31)
theorem RetI.of {w w0 w' : World} {e : Ending} {z : Int} (h : RetI w0 w' e z) (hb : Below w.heap.size w w0) : ∃ s A n c, e = .returned (.agg #[.bool s, .slice A n c]) ∧ cI.M w' w.heap.size (fun _ => True) z [.bool s, .slice A n c] ∧ Below w.heap.size w w' ∧ Below w0.heap.size w0 w' := by
  obtain ⟨s, A, n, c, he, hM, hB⟩ := h
  exact ⟨s, A, n, c, he, cI.M_lower hb.size hM, hb.trans (hB.mono hb.size), hB⟩

set_option maxRecDepth 100000 in
set_option maxHeartbeats 800000 in
theorem zint_Neg (s : Bool) (A : Option Addr) (n c b : Nat) (z : Int) (w : World) (h : GI w s A n c z b) (hs : b ≤ 4398046511104) :
    Calls Try.prog 163 #[.agg #[.bool s, .slice A n c]] w fun e w' => RetI w w' e (-z) := by
  obtain ⟨hb, N, hr, hz⟩ := h
  subst hz
  have hr2 := Lib.hid ((hr.below ((Below.refl _ w).alloc (Nat.le_refl _) (.cells #[.bool s, .slice A n c] 31))).below ((Below.refl _ _).alloc (Nat.le_refl _) (.cells #[.bool false, .slice none 0 0] 31)))
  clear hr
  go_enter Try.func163, Try.ntmps163
  go_wp2_with fail
  with_reducible refine (zint_made _ _ _ _ _ _ hr2.out (by omega)).mono ?_
  rintro e w1 ⟨s', A', n', c', rfl, hM, hB⟩
  obtain ⟨b1, b2, b3, b4, hz⟩ := keep2 hB (heap22 _ _ _)
  have HM := Lib.hid hM
  have HB := Lib.hid hB
  clear hM hB
  go_wp2
  refine bodyPost_ret (v := .agg #[.bool s', .slice A' n' c']) (by simp [results, Try.results163, go_sem, b1, b2, b3, b4, hz]) rfl ?_
  have := retI_close (below2 _ _ _) HM.out HB.out (r := w.heap.size + 1) (by omega) (by simp) (.bool s') (.slice A' n' c')
  rwa [show intv (!s) N = -intv s N from by unfold intv; cases s <;> simp] at this

/-- The sign. -/
def sg (z : Int) : Int := sgnc z 0
theorem sg_zero : sg 0 = 0 := sgnc_eq rfl
theorem sg_pos {z : Int} (h : 0 < z) : sg z = 1 := sgnc_gt h
theorem sg_neg {z : Int} (h : z < 0) : sg z = -1 := sgnc_lt h
theorem sg_eq_zero {z : Int} : sg z = 0 ↔ z = 0 := by unfold sg sgnc; split <;> (try split) <;> omega

theorem nat_Add (A B : Option Addr) (na nb ca cb M N : Nat) (w : World) (ha : RN w A na ca M) (hb : RN w B nb cb N) (hsa : na ≤ 35184372088832) (hsb : nb ≤ 35184372088832) :
    Calls Try.prog 150 #[.slice A na ca, .slice B nb cb] w fun e w' => ∃ C n c, e = .returned (.slice C n c) ∧ CN w' C n c (M + N) ∧ Below w.heap.size w w' := by
  obtain ⟨h0, xs, h1, h2, h3⟩ := ha
  obtain ⟨k0, ys, k1, k2, k3⟩ := hb
  exact nat_Add_lists A B na nb ca cb xs ys w h1 k1 h2 k2 (M + N) (by rw [h3, k3]; simp) hsa hsb

set_option maxRecDepth 100000 in
set_option maxHeartbeats 800000 in
theorem zint_Sign (s : Bool) (A : Option Addr) (n c b : Nat) (z : Int) (w : World) (h : GI w s A n c z b) (hs : b ≤ 4398046511104) :
    Calls Try.prog 55 #[.agg #[.bool s, .slice A n c]] w fun e w' => e = .returned (.int .i64 (sg z)) ∧ Below w.heap.size w w' := by
  obtain ⟨hb, N, hr, hz⟩ := h
  subst hz
  have hr2 := Lib.hid (hr.below (below1 w (.cells #[.bool s, .slice A n c] 31)))
  clear hr
  go_enter Try.func55, Try.ntmps55
  go_wp2_with fail
  with_reducible refine (nat_Bits _ _ _ _ _ hr2.out (by omega)).mono ?_
  rintro e w' ⟨rfl, rfl⟩
  by_cases h0 : N = 0
  · subst h0
    have e1 : nbits 0 = 0 := rfl
    rw [e1]
    clear e1
    go_wp2
    go_ret
    exact ⟨ret_int (by rw [show intv s 0 = 0 from by unfold intv; split <;> rfl]; rfl), below1 _ _⟩
  · have h1 : ((nbits N : Int) == 0) = false := by rw [beq_eq_false_iff_ne]; unfold nbits; rw [if_neg h0]; omega
    cases s
    · go_wp2
      go_ret
      exact ⟨ret_int (by rw [sg_pos (show (0 : Int) < intv false N by unfold intv; simp; omega)]), below1 _ _⟩
    · go_wp2
      go_ret
      exact ⟨ret_int (by rw [sg_neg (show intv true N < 0 by unfold intv; simp; omega)]), below1 _ _⟩

set_option maxRecDepth 100000 in
set_option maxHeartbeats 800000 in
theorem zint_Form (s : Bool) (A : Option Addr) (n c b : Nat) (z : Int) (w : World) (h : GI w s A n c z b) (hs : b ≤ 4398046511104) :
    Calls Try.prog 123 #[.agg #[.bool s, .slice A n c]] w fun e w' => RetI w w' e z := by
  obtain ⟨hb, N, hr, hz⟩ := h
  subst hz
  have hr2 := Lib.hid (hr.below (below2 w (.cells #[.bool s, .slice A n c] 31) (.cells #[.bool false, .slice none 0 0] 31)))
  clear hr
  go_enter Try.func123, Try.ntmps123
  go_wp2_with fail
  with_reducible refine (zint_made _ _ _ _ _ _ hr2.out (by omega)).mono ?_
  rintro e w1 ⟨s', A', n', c', rfl, hM, hB⟩
  obtain ⟨b1, b2, b3, b4, hz⟩ := keep2 hB (heap22 _ _ _)
  have HM := Lib.hid hM
  have HB := Lib.hid hB
  clear hM hB
  go_wp2
  refine bodyPost_ret (v := .agg #[.bool s', .slice A' n' c']) (by simp [results, Try.results123, go_sem, b1, b2, b3, b4, hz]) rfl ?_
  exact retI_close (below2 _ _ _) HM.out HB.out (r := w.heap.size + 1) (by omega) (by simp) (.bool s') (.slice A' n' c')

theorem intv_mul (s t : Bool) (M N : Nat) : intv s M * intv t N = intv (!(s == t)) (M * N) := by
  unfold intv; cases s <;> cases t <;> simp <;> grind

set_option maxRecDepth 100000 in
set_option maxHeartbeats 800000 in
theorem zint_Mul (s1 : Bool) (A1 : Option Addr) (n1 c1 b1 : Nat) (x : Int) (s2 : Bool) (A2 : Option Addr) (n2 c2 b2 : Nat) (y : Int) (w : World) (h1 : GI w s1 A1 n1 c1 x b1) (h2 : GI w s2 A2 n2 c2 y b2) (hb1 : b1 ≤ 4398046511104) (hb2 : b2 ≤ 4398046511104) :
    Calls Try.prog 126 #[.agg #[.bool s1, .slice A1 n1 c1], .agg #[.bool s2, .slice A2 n2 c2]] w fun e w' => RetI w w' e (x * y) := by
  obtain ⟨k1, M, r1, rfl⟩ := h1
  obtain ⟨k2, N, r2, rfl⟩ := h2
  have R1 := Lib.hid (r1.below (below3 w (.cells #[.bool s1, .slice A1 n1 c1] 31) (.cells #[.bool s2, .slice A2 n2 c2] 31) (.cells #[.bool false, .slice none 0 0] 31)))
  have R2 := Lib.hid (r2.below (below3 w (.cells #[.bool s1, .slice A1 n1 c1] 31) (.cells #[.bool s2, .slice A2 n2 c2] 31) (.cells #[.bool false, .slice none 0 0] 31)))
  have l1 := r1.len_ge
  have l2 := r2.len_ge
  clear r1 r2
  go_enter Try.func126, Try.ntmps126
  go_wp2_with fail
  have S0 := blk2 (heap31 w (.cells #[.bool s1, .slice A1 n1 c1] 31) (.cells #[.bool s2, .slice A2 n2 c2] 31) (.cells #[.bool false, .slice none 0 0] 31))
  have S1 := blk2 (heap32 w (.cells #[.bool s1, .slice A1 n1 c1] 31) (.cells #[.bool s2, .slice A2 n2 c2] 31) (.cells #[.bool false, .slice none 0 0] 31))
  go_region_held3 (fun w' => w'.cell? ⟨w.heap.size, 0, none⟩ = some (.bool s1) ∧ w'.cell? ⟨w.heap.size, 1, none⟩ = some (.slice A1 n1 c1) ∧ w'.cell? ⟨w.heap.size + 1, 0, none⟩ = some (.bool s2) ∧ w'.cell? ⟨w.heap.size + 1, 1, none⟩ = some (.slice A2 n2 c2))
    (first | exact ⟨S0.1, S0.2.1, S1.1, S1.2.1⟩ | exact ⟨K0.1, K0.2.1, K1.1, K1.2.1⟩ | exact ⟨L0.1, L0.2.1, L1.1, L1.2.1⟩ | (refine ⟨?_, ?_, ?_, ?_⟩ <;> (go_simp; done)))
    (first
      | (go_at_call 161; (with_reducible refine (nat_Mul _ _ _ _ _ _ _ _ _ R1.out.drew R2.out.drew (by omega)).mono ?_); rintro e w1 ⟨C, n, c, rfl, hC, hB⟩; (have hl : n ≤ 8796093022208 := by rw [hC.len]; have := lim_mul M N; omega); (have K0 := keep2 hB (heap31 _ _ _ _)); (have K1 := keep2 hB (heap32 _ _ _ _)); (have HC := Lib.hid hC); (have HB0 := Lib.hid hB); clear hC hB)
      | (go_at_call 125; (with_reducible refine (zint_made _ _ _ _ _ _ HC.out.rn (by omega)).mono ?_); rintro e w2 ⟨s', A', n', c', rfl, hM, hB⟩; (have hB2 := HB0.out.trans (hB.mono HB0.out.size)); (have L0 := keep2 hB2 (heap31 _ _ _ _)); (have L1 := keep2 hB2 (heap32 _ _ _ _)); obtain ⟨b1, b2, b3, b4, hz⟩ := keep2 hB2 (heap33 _ _ _ _); (have HM := Lib.hid (cI.M_lower HB0.out.size hM)); (have HB := Lib.hid hB2); clear hM hB hB2))
  go_wp2
  refine bodyPost_ret (v := .agg #[.bool s', .slice A' n' c']) (by simp [results, Try.results126, go_sem, b1, b2, b3, b4, hz]) rfl ?_
  have := retI_close (below3 _ _ _ _) HM.out (drew_right HB.out) (r := w.heap.size + 1 + 1) (by omega) (by simp) (.bool s') (.slice A' n' c')
  rwa [← intv_mul] at this
end Go.Proofs.Ytaagioghkicdkaa
