/- Contracts of package zint: sums, order. -/
import Derived.Test.YtaagioghkicdkaaZintB
set_option linter.unusedVariables false
set_option linter.unusedSimpArgs false
namespace Go.Proofs.Ytaagioghkicdkaa
open Go.RowKit Go.Proofs.YtaagioghkicdkaaW.PrintWords Mt

theorem intv_add (s : Bool) (M N : Nat) : intv s M + intv s N = intv s (M + N) := by unfold intv; cases s <;> simp <;> omega
theorem sg_intv (s : Bool) (N : Nat) : sg (intv s N) = if N = 0 then 0 else if s then -1 else 1 := by
  unfold sg sgnc intv; cases s <;> simp <;> (try split) <;> (try split) <;> omega

set_option maxRecDepth 100000 in
set_option maxHeartbeats 1600000 in
theorem zint_Add (s1 : Bool) (A1 : Option Addr) (n1 c1 b1 : Nat) (x : Int) (s2 : Bool) (A2 : Option Addr) (n2 c2 b2 : Nat) (y : Int) (w : World) (h1 : GI w s1 A1 n1 c1 x b1) (h2 : GI w s2 A2 n2 c2 y b2) (hb1 : b1 ≤ 4398046511104) (hb2 : b2 ≤ 4398046511104) :
    Calls Try.prog 109 #[.agg #[.bool s1, .slice A1 n1 c1], .agg #[.bool s2, .slice A2 n2 c2]] w fun e w' => RetI w w' e (x + y) := by
  obtain ⟨k1, M, r1, rfl⟩ := h1
  obtain ⟨k2, N, r2, rfl⟩ := h2
  have l1 := r1.len_ge
  have l2 := r2.len_ge
  have R1 := Lib.hid (r1.below (below3 w (.cells #[.bool s1, .slice A1 n1 c1] 31) (.cells #[.bool s2, .slice A2 n2 c2] 31) (.cells #[.bool false, .slice none 0 0] 31)))
  have R2 := Lib.hid (r2.below (below3 w (.cells #[.bool s1, .slice A1 n1 c1] 31) (.cells #[.bool s2, .slice A2 n2 c2] 31) (.cells #[.bool false, .slice none 0 0] 31)))
  have S0 := blk2 (heap31 w (.cells #[.bool s1, .slice A1 n1 c1] 31) (.cells #[.bool s2, .slice A2 n2 c2] 31) (.cells #[.bool false, .slice none 0 0] 31))
  have S1 := blk2 (heap32 w (.cells #[.bool s1, .slice A1 n1 c1] 31) (.cells #[.bool s2, .slice A2 n2 c2] 31) (.cells #[.bool false, .slice none 0 0] 31))
  have S2 := blk2 (heap33 w (.cells #[.bool s1, .slice A1 n1 c1] 31) (.cells #[.bool s2, .slice A2 n2 c2] 31) (.cells #[.bool false, .slice none 0 0] 31))
  have HR1 := Lib.hid r1
  have HR2 := Lib.hid r2
  clear r1 r2
  by_cases hs : s1 = s2
  · subst hs
    have he : (s1 == s1) = true := by simp
    go_enter Try.func109, Try.ntmps109
    go_wp2_with fail
    go_region_held3 (fun w' => w'.cell? ⟨w.heap.size, 0, none⟩ = some (.bool s1) ∧ w'.cell? ⟨w.heap.size, 1, none⟩ = some (.slice A1 n1 c1) ∧ w'.cell? ⟨w.heap.size + 1, 0, none⟩ = some (.bool s1) ∧ w'.cell? ⟨w.heap.size + 1, 1, none⟩ = some (.slice A2 n2 c2))
      (first | (refine ⟨?_, ?_, ?_, ?_⟩ <;> (go_simp; done)))
      (first
        | (go_at_call 150; (with_reducible refine (nat_Add _ _ _ _ _ _ _ _ _ R1.out.drew R2.out.drew (by omega) (by omega)).mono ?_); rintro e w1 ⟨C, n, c, rfl, hC, hB⟩; (have hl : n ≤ 8796093022208 := by rw [hC.len]; have h1 := lim_add (m := M) (n := N) (k := 4398046511104) (by omega) (by omega); omega); (have K0 := keep2 hB (heap31 _ _ _ _)); (have K1 := keep2 hB (heap32 _ _ _ _)); (have HC := Lib.hid hC); (have HB0 := Lib.hid hB); clear hC hB)
        | (go_at_call 125; (with_reducible refine (zint_made _ _ _ _ _ _ HC.out.rn (by omega)).mono ?_); rintro e w2 ⟨s', A', n', c', rfl, hM, hB⟩; (have hB2 := HB0.out.trans (hB.mono HB0.out.size)); (have L0 := keep2 hB2 (heap31 _ _ _ _)); (have L1 := keep2 hB2 (heap32 _ _ _ _)); (have L2 := keep2 hB2 (heap33 _ _ _ _)); (have HM := Lib.hid (cI.M_lower HB0.out.size hM)); (have HB := Lib.hid hB2); clear hM hB hB2))
    go_wp2
    obtain ⟨b1, b2, b3, b4, hz⟩ := L2
    refine bodyPost_ret (v := .agg #[.bool s', .slice A' n' c']) (by simp [results, Try.results109, go_sem, b1, b2, b3, b4, hz]) rfl ?_
    have := retI_close (below3 _ _ _ _) HM.out (drew_right HB.out) (r := w.heap.size + 1 + 1) (by omega) (by simp) (.bool s') (.slice A' n' c')
    rwa [← intv_add] at this
  · have he : (s1 == s2) = false := by simpa using hs
    have hs2 : s2 = !s1 := by cases s1 <;> cases s2 <;> simp_all
    subst hs2
    by_cases hlt : M < N
    · have hsg : sgnc (M : Int) N = -1 := sgnc_lt (by omega)
      have hsum : intv s1 M + intv (!s1) N = intv (!s1) (N - M) := by unfold intv; cases s1 <;> simp <;> omega
      go_enter Try.func109, Try.ntmps109
      go_wp2_with fail
      with_reducible refine (nat_Cmp _ _ _ _ _ _ _ _ _ R1.out R2.out).mono ?_
      rintro e w1 ⟨rfl, q, rfl⟩
      go_wp2_with fail
      with_reducible refine (nat_Sub _ _ _ _ _ _ _ _ _ (HR2.out.below (by repeat (first | exact below3 _ _ _ _ | refine pw_below_drewN ?_ _ | refine below_drew ?_ | refine Below.setCell ?_ (by simp <;> omega) _))) (HR1.out.below (by repeat (first | exact below3 _ _ _ _ | refine pw_below_drewN ?_ _ | refine below_drew ?_ | refine Below.setCell ?_ (by simp <;> omega) _))) (by omega) (by omega)).mono ?_
      rintro e w2 ⟨C, n, c, rfl, hC, hB⟩
      obtain ⟨hc, hf⟩ := bcell hB
      have hz := hB.size
      simp at hz
      have hz0 : w.heap.size < w2.heap.size := by omega
      have hz1 : w.heap.size + 1 < w2.heap.size := by omega
      have hz2 : w.heap.size + 1 + 1 < w2.heap.size := by omega
      have hl : n ≤ 8796093022208 := by rw [hC.len]; have := lim_mono (Nat.sub_le (N) (M)); omega
      have HC := Lib.hid hC
      have HB1 := Lib.hid hB
      clear hC hB
      go_wp2_with fail
      with_reducible refine (zint_made _ _ _ _ _ _ HC.out.rn (by omega)).mono ?_
      rintro e w3 ⟨s', A', n', c', rfl, hM, hB⟩
      obtain ⟨hc2, hf2⟩ := bcell hB
      have hy2 : w.heap.size + 1 + 1 < w3.heap.size := by have := hB.size; omega
      have HM := Lib.hid hM
      have HB2 := Lib.hid hB
      clear hM hB
      go_wp2
      refine bodyPost_ret (v := .agg #[.bool s', .slice A' n' c']) (by simp [results, Try.results109, go_sem, hc, hf, hc2, hf2, hz2, hy2]) rfl ?_
      rw [hsum]
      exact retI_close (below_then (by repeat (first | exact below3 _ _ _ _ | refine pw_below_drewN ?_ _ | refine below_drew ?_ | refine Below.setCell ?_ (by simp <;> omega) _)) (by simp; omega) HB1.out) HM.out HB2.out (r := w.heap.size + 1 + 1) (by omega) hz2 (.bool s') (.slice A' n' c')
    · have hsg : ¬ sgnc (M : Int) N < 0 := by unfold sgnc; rw [if_neg (by omega)]; split <;> omega
      have hsum : intv s1 M + intv (!s1) N = intv s1 (M - N) := by unfold intv; cases s1 <;> simp <;> omega
      go_enter Try.func109, Try.ntmps109
      go_wp2_with fail
      with_reducible refine (nat_Cmp _ _ _ _ _ _ _ _ _ R1.out R2.out).mono ?_
      rintro e w1 ⟨rfl, q, rfl⟩
      go_wp2_with fail
      with_reducible refine (nat_Sub _ _ _ _ _ _ _ _ _ (HR1.out.below (by repeat (first | exact below3 _ _ _ _ | refine pw_below_drewN ?_ _ | refine below_drew ?_ | refine Below.setCell ?_ (by simp <;> omega) _))) (HR2.out.below (by repeat (first | exact below3 _ _ _ _ | refine pw_below_drewN ?_ _ | refine below_drew ?_ | refine Below.setCell ?_ (by simp <;> omega) _))) (by omega) (by omega)).mono ?_
      rintro e w2 ⟨C, n, c, rfl, hC, hB⟩
      obtain ⟨hc, hf⟩ := bcell hB
      have hz := hB.size
      simp at hz
      have hz0 : w.heap.size < w2.heap.size := by omega
      have hz1 : w.heap.size + 1 < w2.heap.size := by omega
      have hz2 : w.heap.size + 1 + 1 < w2.heap.size := by omega
      have hl : n ≤ 8796093022208 := by rw [hC.len]; have := lim_mono (Nat.sub_le (M) (N)); omega
      have HC := Lib.hid hC
      have HB1 := Lib.hid hB
      clear hC hB
      go_wp2_with fail
      with_reducible refine (zint_made _ _ _ _ _ _ HC.out.rn (by omega)).mono ?_
      rintro e w3 ⟨s', A', n', c', rfl, hM, hB⟩
      obtain ⟨hc2, hf2⟩ := bcell hB
      have hy2 : w.heap.size + 1 + 1 < w3.heap.size := by have := hB.size; omega
      have HM := Lib.hid hM
      have HB2 := Lib.hid hB
      clear hM hB
      go_wp2
      refine bodyPost_ret (v := .agg #[.bool s', .slice A' n' c']) (by simp [results, Try.results109, go_sem, hc, hf, hc2, hf2, hz2, hy2]) rfl ?_
      rw [hsum]
      exact retI_close (below_then (by repeat (first | exact below3 _ _ _ _ | refine pw_below_drewN ?_ _ | refine below_drew ?_ | refine Below.setCell ?_ (by simp <;> omega) _)) (by simp; omega) HB1.out) HM.out HB2.out (r := w.heap.size + 1 + 1) (by omega) hz2 (.bool s') (.slice A' n' c')

set_option maxRecDepth 100000 in
set_option maxHeartbeats 1600000 in
theorem zint_Sub (s1 : Bool) (A1 : Option Addr) (n1 c1 b1 : Nat) (x : Int) (s2 : Bool) (A2 : Option Addr) (n2 c2 b2 : Nat) (y : Int) (w : World) (h1 : GI w s1 A1 n1 c1 x b1) (h2 : GI w s2 A2 n2 c2 y b2) (hb1 : b1 ≤ 4398046511104) (hb2 : b2 ≤ 4398046511104) :
    Calls Try.prog 141 #[.agg #[.bool s1, .slice A1 n1 c1], .agg #[.bool s2, .slice A2 n2 c2]] w fun e w' => RetI w w' e (x - y) := by
  have R1 := Lib.hid (h1.below (below3 w (.cells #[.bool s1, .slice A1 n1 c1] 31) (.cells #[.bool s2, .slice A2 n2 c2] 31) (.cells #[.bool false, .slice none 0 0] 31)))
  have R2 := Lib.hid (h2.below (below3 w (.cells #[.bool s1, .slice A1 n1 c1] 31) (.cells #[.bool s2, .slice A2 n2 c2] 31) (.cells #[.bool false, .slice none 0 0] 31)))
  have S0 := blk2 (heap31 w (.cells #[.bool s1, .slice A1 n1 c1] 31) (.cells #[.bool s2, .slice A2 n2 c2] 31) (.cells #[.bool false, .slice none 0 0] 31))
  have S1 := blk2 (heap32 w (.cells #[.bool s1, .slice A1 n1 c1] 31) (.cells #[.bool s2, .slice A2 n2 c2] 31) (.cells #[.bool false, .slice none 0 0] 31))
  have S2 := blk2 (heap33 w (.cells #[.bool s1, .slice A1 n1 c1] 31) (.cells #[.bool s2, .slice A2 n2 c2] 31) (.cells #[.bool false, .slice none 0 0] 31))
  have hz2 := h2.zl
  clear h1 h2
  go_enter Try.func141, Try.ntmps141
  go_wp2_with fail
  go_region_held3 (fun w' => w'.cell? ⟨w.heap.size, 0, none⟩ = some (.bool s1) ∧ w'.cell? ⟨w.heap.size, 1, none⟩ = some (.slice A1 n1 c1) ∧ w'.cell? ⟨w.heap.size + 1, 0, none⟩ = some (.bool s2) ∧ w'.cell? ⟨w.heap.size + 1, 1, none⟩ = some (.slice A2 n2 c2))
    (first | (refine ⟨?_, ?_, ?_, ?_⟩ <;> (go_simp; done)))
    (first
      | (go_at_call 163; (with_reducible refine (zint_Neg _ _ _ _ _ _ _ (GI.drew R2.out) hb2).mono ?_); rintro e w1 ⟨s3, A3, n3, c3, rfl, hM, hB⟩; (have K0 := keep2 hB (heap31 _ _ _ _)); (have K1 := keep2 hB (heap32 _ _ _ _)); (have HC := Lib.hid ((cI_CI (cI.K_of_M hM)).gi (b := b2) (by unfold zl; rw [Int.natAbs_neg]; exact hz2))); (have HB0 := Lib.hid hB); clear hM hB)
      | (go_at_call 109; (with_reducible refine (zint_Add _ _ _ _ _ _ _ _ _ _ _ _ _ ((GI.drew R1.out).below HB0.out) HC.out hb1 hb2).mono ?_); rintro e w2 ⟨s', A', n', c', rfl, hM, hB⟩; (have hB2 := HB0.out.trans (hB.mono HB0.out.size)); (have L0 := keep2 hB2 (heap31 _ _ _ _)); (have L1 := keep2 hB2 (heap32 _ _ _ _)); (have L2 := keep2 hB2 (heap33 _ _ _ _)); (have HM := Lib.hid (cI.M_lower HB0.out.size hM)); (have HB := Lib.hid hB2); clear hM hB hB2))
  go_wp2
  obtain ⟨b1, b2, b3, b4, hz⟩ := L2
  refine bodyPost_ret (v := .agg #[.bool s', .slice A' n' c']) (by simp [results, Try.results141, go_sem, b1, b2, b3, b4, hz]) rfl ?_
  have := retI_close (below3 _ _ _ _) HM.out (drew_right HB.out) (r := w.heap.size + 1 + 1) (by omega) (by simp) (.bool s') (.slice A' n' c')
  rwa [← Int.sub_eq_add_neg] at this

theorem sg_bd (z : Int) : -1 ≤ sg z ∧ sg z ≤ 1 := by unfold sg sgnc; split <;> (try split) <;> omega
theorem sgnc_bd (x y : Int) : -1 ≤ sgnc x y ∧ sgnc x y ≤ 1 := by unfold sgnc; split <;> (try split) <;> omega
theorem cmp_lt {x y : Int} (h : sg x < sg y) : sgnc x y = -1 := by
  have : x < y := by unfold sg sgnc at h; split at h <;> (try split at h) <;> (try split at h) <;> (try split at h) <;> omega
  exact sgnc_lt this
theorem cmp_gt {x y : Int} (h : sg y < sg x) : sgnc x y = 1 := by
  have : y < x := by unfold sg sgnc at h; split at h <;> (try split at h) <;> (try split at h) <;> (try split at h) <;> omega
  exact sgnc_gt this
theorem cmp_same {x y : Int} (h1 : ¬ sg x < sg y) (h2 : ¬ sg y < sg x) : sg x * sgnc (x.natAbs : Int) (y.natAbs : Int) = sgnc x y := by
  have h : (0 < x ∧ 0 < y) ∨ (x < 0 ∧ y < 0) ∨ (x = 0 ∧ y = 0) := by
    unfold sg sgnc at h1 h2; split at h1 <;> (try split at h1) <;> (try split at h1) <;> (try split at h1) <;> (try split at h2) <;> (try split at h2) <;> omega
  rcases h with ⟨a, b⟩ | ⟨a, b⟩ | ⟨a, b⟩
  · rw [sg_pos a, Int.one_mul]; unfold sgnc; split <;> split <;> (try split) <;> (try split) <;> omega
  · rw [sg_neg a]; unfold sgnc; split <;> (try split) <;> (try split) <;> (try split) <;> omega
  · subst a; subst b; rfl

set_option maxRecDepth 100000 in
set_option maxHeartbeats 1600000 in
theorem zint_Compare (s1 : Bool) (A1 : Option Addr) (n1 c1 b1 : Nat) (x : Int) (s2 : Bool) (A2 : Option Addr) (n2 c2 b2 : Nat) (y : Int) (w : World) (h1 : GI w s1 A1 n1 c1 x b1) (h2 : GI w s2 A2 n2 c2 y b2) (hb1 : b1 ≤ 4398046511104) (hb2 : b2 ≤ 4398046511104) :
    Calls Try.prog 135 #[.agg #[.bool s1, .slice A1 n1 c1], .agg #[.bool s2, .slice A2 n2 c2]] w fun e w' => e = .returned (.int .i64 (sgnc x y)) ∧ Below w.heap.size w w' := by
  have R1 := Lib.hid (h1.below (below2 w (.cells #[.bool s1, .slice A1 n1 c1] 31) (.cells #[.bool s2, .slice A2 n2 c2] 31)))
  have R2 := Lib.hid (h2.below (below2 w (.cells #[.bool s1, .slice A1 n1 c1] 31) (.cells #[.bool s2, .slice A2 n2 c2] 31)))
  have S0 := blk2 (heap21 w (.cells #[.bool s1, .slice A1 n1 c1] 31) (.cells #[.bool s2, .slice A2 n2 c2] 31))
  have S1 := blk2 (heap22 w (.cells #[.bool s1, .slice A1 n1 c1] 31) (.cells #[.bool s2, .slice A2 n2 c2] 31))
  clear h1 h2
  have bdx := sg_bd x
  have bdy := sg_bd y
  go_enter Try.func135, Try.ntmps135
  go_wp2_with fail
  go_region_held3 (fun w' => w'.cell? ⟨w.heap.size, 0, none⟩ = some (.bool s1) ∧ w'.cell? ⟨w.heap.size, 1, none⟩ = some (.slice A1 n1 c1) ∧ w'.cell? ⟨w.heap.size + 1, 0, none⟩ = some (.bool s2) ∧ w'.cell? ⟨w.heap.size + 1, 1, none⟩ = some (.slice A2 n2 c2))
    (first | (refine ⟨?_, ?_, ?_, ?_⟩ <;> (go_simp; done)))
    (first
      | (go_at_call 55; (with_reducible refine (zint_Sign _ _ _ _ _ _ _ (GI.drew R1.out) hb1).mono ?_); rintro e w1 ⟨rfl, hB⟩; (have K0 := keep2 hB (heap21 _ _ _)); (have K1 := keep2 hB (heap22 _ _ _)); (have HB0 := Lib.hid (drew_right hB)); clear hB)
      | (go_at_call 55; (with_reducible refine (zint_Sign _ _ _ _ _ _ _ (R2.out.below HB0.out) hb2).mono ?_); rintro e w2 ⟨rfl, hB⟩; (have hB2 := HB0.out.trans (hB.mono HB0.out.size)); (have L0 := keep2 hB2 (heap21 _ _ _)); (have L1 := keep2 hB2 (heap22 _ _ _)); (have HB := Lib.hid hB2); clear hB hB2))
  by_cases c1 : sg x < sg y
  · have hv := Lib.hid (cmp_lt c1)
    go_wp2
    go_ret
    exact ⟨ret_int hv.out.symm, (below2 _ _ _).trans (HB.out.mono (below2 _ _ _).size)⟩
  · by_cases c2 : sg y < sg x
    · have hv := Lib.hid (cmp_gt c2)
      go_wp2
      go_ret
      exact ⟨ret_int hv.out.symm, (below2 _ _ _).trans (HB.out.mono (below2 _ _ _).size)⟩
    · obtain ⟨k1, M, r1, hx⟩ := R1.out.below HB.out
      obtain ⟨k2, N, r2, hy⟩ := R2.out.below HB.out
      have hv := cmp_same c1 c2
      have hM : x.natAbs = M := by rw [hx, intv_natAbs]
      have hN : y.natAbs = N := by rw [hy, intv_natAbs]
      rw [hM, hN] at hv
      have hb := sgnc_bd (M : Int) N
      have hpr : -1 ≤ sg x * sgnc (M : Int) N ∧ sg x * sgnc (M : Int) N ≤ 1 := by rw [hv]; exact sgnc_bd _ _
      have HV := Lib.hid hv
      have q1 := Lib.hid r1
      have q2 := Lib.hid r2
      clear hv hx hy hM hN r1 r2
      go_wp2_with fail
      with_reducible refine (nat_Cmp _ _ _ _ _ _ _ _ _ q1.out q2.out).mono ?_
      rintro e w1 ⟨rfl, q, rfl⟩
      go_wp2
      go_ret
      exact ⟨ret_int HV.out, pw_below_drewN ((below2 _ _ _).trans (HB.out.mono (below2 _ _ _).size)) _⟩

end Go.Proofs.Ytaagioghkicdkaa
