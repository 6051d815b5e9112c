/- Mathematics of limbs, of whole numbers and of rationals: sums, differences, products, quotients, sizes. -/
import Derived.Test.YtlmiadjogdfjkaaMath
import Derived.Lib.ItoaNum
set_option linter.unusedVariables false
set_option linter.unusedSimpArgs false
namespace Go.Proofs.Ytlmiadjogdfjkaa
open Mt Go
namespace Nml
def lessI (xs ys zs : List Int) (k : Nat) (b : Int) : Prop := 0 ≤ b ∧ b ≤ 1 ∧ zs.length = xs.length ∧ Lim zs ∧ val (zs.take k) - B k * b = val (xs.take k) - val (ys.take k)
theorem lessI.lim {xs ys zs : List Int} {k : Nat} {b : Int} (h : lessI xs ys zs k b) : Lim zs := h.2.2.2.1
theorem lessI_start (xs ys : List Int) : lessI xs ys (List.replicate xs.length 0) 0 0 := ⟨by omega, by omega, by simp, Lim.noughts _, by simp [val]⟩
theorem lessI_step {xs ys zs : List Int} {k : Nat} {b y : Int} (h : lessI xs ys zs k b) (hk : k < xs.length) (hx : Lim xs) (hy0 : 0 ≤ y) (hy1 : y < 4294967296)
    (hy : val (ys.take (k + 1)) = val (ys.take k) + B k * y) (v : Int) (hv : v = (at_ xs k - b - y) % 18446744073709551616) :
    lessI xs ys (zs.set k (v % 4294967296)) (k + 1) (v / 9223372036854775808) := by
  obtain ⟨h0, h1, h2, h3, h4⟩ := h
  have hx1 := hx.at_ k
  have e : v % 4294967296 - 4294967296 * (v / 9223372036854775808) = at_ xs k - b - y := by omega
  refine ⟨by omega, by omega, by simpa using h2, h3.set _ (by omega) (by omega), ?_⟩
  rw [take_set _ (by omega), val_snoc, len_take (by omega), val_take_succ hk, hy, B_succ]
  have e2 := congrArg (fun t => B k * t) e
  simp only [Int.mul_sub] at e2
  have e3 : 4294967296 * B k * (v / 9223372036854775808) = B k * (4294967296 * (v / 9223372036854775808)) := by rw [Int.mul_comm 4294967296, Int.mul_assoc]
  omega
theorem lessI_end {xs ys zs : List Int} {b : Int} (h : lessI xs ys zs xs.length b) (hx : Lim xs) (hy : Lim ys) (hl : ys.length ≤ xs.length) (hle : val ys ≤ val xs) : val zs = val xs - val ys := by
  obtain ⟨h0, h1, h2, h3, h4⟩ := h
  rw [← h2, List.take_length, h2, List.take_length, List.take_of_length_le hl] at h4
  have h5 := val_lt h3
  rw [h2] at h5
  have h6 := val_nonneg h3
  have h7 : b = 0 ∨ b = 1 := by omega
  rcases h7 with rfl | rfl
  · omega
  · omega
theorem bitLen_nbits {x : Nat} (h : x < 4294967296) : Lib.bitLen x = nbits x := by
  by_cases h0 : x = 0
  · subst h0; rw [show Lib.bitLen 0 = 0 from Lib.bitLenAux_zero 64]; rfl
  · obtain ⟨h1, h2, h3⟩ := Lib.bitLenAux_bounds 64 x (by omega) h0
    have e : Lib.bitLen x = Lib.bitLenAux 64 x := rfl
    obtain ⟨k, hk⟩ : ∃ k, Lib.bitLenAux 64 x = k + 1 := ⟨Lib.bitLenAux 64 x - 1, by omega⟩
    rw [e, hk]
    rw [hk] at h2 h3
    rw [Nat.add_sub_cancel] at h2
    exact (nbits_eq h2 h3).symm
def addI (xs ys zs : List Int) (m : Nat) (k : Nat) (c : Int) : Prop := 0 ≤ c ∧ c ≤ 1 ∧ zs.length = m ∧ Lim zs ∧ val (zs.take k) + B k * c = val (xs.take k) + val (ys.take k)
theorem addI.lim {xs ys zs : List Int} {m k : Nat} {c : Int} (h : addI xs ys zs m k c) : Lim zs := h.2.2.2.1
theorem addI.len {xs ys zs : List Int} {m k : Nat} {c : Int} (h : addI xs ys zs m k c) : zs.length = m := h.2.2.1
theorem addI.bd {xs ys zs : List Int} {m k : Nat} {c : Int} (h : addI xs ys zs m k c) : 0 ≤ c ∧ c ≤ 1 := ⟨h.1, h.2.1⟩
theorem addI_start (xs ys : List Int) (m : Nat) : addI xs ys (List.replicate m 0) m 0 0 := ⟨by omega, by omega, by simp, Lim.noughts _, by simp [val]⟩
theorem addI_step {xs ys zs : List Int} {m k : Nat} {c y : Int} (h : addI xs ys zs m k c) (hk : k < xs.length) (hm : k < m) (hx : Lim xs) (hy0 : 0 ≤ y) (hy1 : y < 4294967296)
    (hy : val (ys.take (k + 1)) = val (ys.take k) + B k * y) (v : Int) (hv : v = c + at_ xs k + y) :
    addI xs ys (zs.set k (v % 4294967296)) m (k + 1) (v / 4294967296) := by
  obtain ⟨h0, h1, h2, h3, h4⟩ := h
  have hx1 := hx.at_ k
  have e : v % 4294967296 + 4294967296 * (v / 4294967296) = c + at_ xs k + y := by omega
  refine ⟨by omega, by omega, by simpa using h2, h3.set _ (by omega) (by omega), ?_⟩
  rw [take_set _ (by omega), val_snoc, len_take (by omega), val_take_succ hk, hy, B_succ]
  have e2 := congrArg (fun t => B k * t) e
  simp only [Int.mul_add] at e2
  have e3 : 4294967296 * B k * (v / 4294967296) = B k * (4294967296 * (v / 4294967296)) := by rw [Int.mul_comm 4294967296, Int.mul_assoc]
  omega
theorem addI_end {xs ys zs : List Int} {m : Nat} {c : Int} (h : addI xs ys zs m xs.length c) (hm : m = xs.length + 1) (hl : ys.length ≤ xs.length) (v : Int) (hv : v = c) : val (zs.set xs.length v) = val xs + val ys ∧ Lim (zs.set xs.length v) := by
  obtain ⟨h0, h1, h2, h3, h4⟩ := h
  subst hv
  refine ⟨?_, h3.set _ h0 (by omega)⟩
  rw [List.take_length, List.take_of_length_le hl] at h4
  have e := take_set (xs := zs) (k := xs.length) v (by omega)
  rw [List.take_of_length_le (by simp; omega)] at e
  rw [e, val_snoc, len_take (by omega)]
  exact h4
theorem mul_bound {x y c z : Int} (hx0 : 0 ≤ x) (hx1 : x < 4294967296) (hy0 : 0 ≤ y) (hy1 : y < 4294967296) (hc0 : 0 ≤ c) (hc1 : c < 4294967296) (hz0 : 0 ≤ z) (hz1 : z < 4294967296) : 0 ≤ x * y ∧ c + (x * y + z) < 18446744073709551616 := by
  have h1 : 0 ≤ x * y := Int.mul_nonneg hx0 hy0
  have h2 : x * y ≤ 4294967295 * 4294967295 := Int.mul_le_mul (by omega) (by omega) hy0 (by omega)
  omega
def mulI (ys zs : List Int) (n i : Nat) (tot x : Int) (j : Nat) (c : Int) : Prop := 0 ≤ c ∧ c < 4294967296 ∧ zs.length = n ∧ Lim zs ∧ (∀ k, i + ys.length ≤ k → at_ zs k = 0) ∧ val zs + B (i + j) * c = tot + B i * (x * val (ys.take j))
theorem mulI.lim {ys zs : List Int} {n i : Nat} {tot x : Int} {j : Nat} {c : Int} (h : mulI ys zs n i tot x j c) : Lim zs := h.2.2.2.1
theorem mulI.len {ys zs : List Int} {n i : Nat} {tot x : Int} {j : Nat} {c : Int} (h : mulI ys zs n i tot x j c) : zs.length = n := h.2.2.1
theorem mulI.bd {ys zs : List Int} {n i : Nat} {tot x : Int} {j : Nat} {c : Int} (h : mulI ys zs n i tot x j c) : 0 ≤ c ∧ c < 4294967296 := ⟨h.1, h.2.1⟩
theorem mulI_step {ys zs : List Int} {n i : Nat} {tot x : Int} {j : Nat} {c : Int} (h : mulI ys zs n i tot x j c) (hn : n = i + ys.length ∨ i + ys.length < n) (hj : j < ys.length) (hx0 : 0 ≤ x) (hx1 : x < 4294967296) (hy : Lim ys) (v : Int) (hv : v = c + (x * at_ ys j + at_ zs (i + j))) :
    mulI ys (zs.set (i + j) (v % 4294967296)) n i tot x (j + 1) (v / 4294967296) := by
  obtain ⟨h0, h1, h2, h3, h4, h5⟩ := h
  have hb := hy.at_ j
  have hz := h3.at_ (i + j)
  have hm := mul_bound hx0 hx1 hb.1 hb.2 h0 h1 hz.1 hz.2
  refine ⟨by omega, by omega, by simpa using h2, h3.set _ (by omega) (by omega), fun k hk => by rw [at_set_ne _ (by omega)]; exact h4 k hk, ?_⟩
  rw [val_set _ (by omega), val_take_succ hj, show i + (j + 1) = (i + j) + 1 from by omega, B_succ]
  have e : v % 4294967296 + 4294967296 * (v / 4294967296) - at_ zs (i + j) = c + x * at_ ys j := by omega
  have e2 := congrArg (fun t => B (i + j) * t) e
  simp only [Int.mul_add, Int.mul_sub] at e2
  rw [Int.mul_sub]
  have e3 : 4294967296 * B (i + j) * (v / 4294967296) = B (i + j) * (4294967296 * (v / 4294967296)) := by rw [Int.mul_comm 4294967296, Int.mul_assoc]
  have e4 : B i * (x * (val (ys.take j) + B j * at_ ys j)) = B i * (x * val (ys.take j)) + B (i + j) * (x * at_ ys j) := by
    rw [B_add]; grind
  omega
def mulO (xs ys zs : List Int) (n i : Nat) : Prop := zs.length = n ∧ Lim zs ∧ (∀ k, i + ys.length ≤ k → at_ zs k = 0) ∧ val zs = val (xs.take i) * val ys
theorem mulO.len {xs ys zs : List Int} {n i : Nat} (h : mulO xs ys zs n i) : zs.length = n := h.1
theorem mulO_start (xs ys : List Int) (n : Nat) : mulO xs ys (List.replicate n 0) n 0 := ⟨by simp, Lim.noughts _, fun k _ => by
  unfold at_; rw [List.getD_eq_getElem?_getD, List.getElem?_replicate]; split <;> rfl, by rw [val_noughts]; simp [val]⟩
theorem mulI_start {xs ys zs : List Int} {n i : Nat} (h : mulO xs ys zs n i) : mulI ys zs n i (val (xs.take i) * val ys) (at_ xs i) 0 0 := by
  obtain ⟨h1, h2, h3, h4⟩ := h
  exact ⟨by omega, by omega, h1, h2, h3, by rw [h4]; simp [val]⟩
theorem mulO_step {xs ys zs : List Int} {n i : Nat} {c : Int} (h : mulI ys zs n i (val (xs.take i) * val ys) (at_ xs i) ys.length c) (hi : i < xs.length) (hn : i + ys.length < n) : mulO xs ys (zs.set (i + ys.length) c) n (i + 1) := by
  obtain ⟨h0, h1, h2, h3, h4, h5⟩ := h
  refine ⟨by simpa using h2, h3.set _ h0 h1, fun k hk => by rw [at_set_ne _ (by omega)]; exact h4 k (by omega), ?_⟩
  rw [val_set _ (by omega), h4 _ (Nat.le_refl _), Int.sub_zero, val_take_succ hi, h5, List.take_length]
  grind
theorem mulO_end {xs ys zs : List Int} {n : Nat} (h : mulO xs ys zs n xs.length) : val zs = val xs * val ys ∧ Lim zs := by
  obtain ⟨h1, h2, h3, h4⟩ := h
  rw [List.take_length] at h4
  exact ⟨h4, h2⟩
def intv (s : Bool) (N : Nat) : Int := if s then -(N : Int) else N
def zl (z : Int) : Nat := lim z.natAbs
theorem intv_natAbs (s : Bool) (N : Nat) : (intv s N).natAbs = N := by unfold intv; split <;> omega
theorem intv_sign {z : Int} : intv (decide (z < 0)) z.natAbs = z := by unfold intv; split <;> simp_all <;> omega
theorem intv_sgn (s : Bool) {N : Nat} (h : N ≠ 0) : s = decide (intv s N < 0) := by unfold intv; cases s <;> simp <;> omega
def sg (z : Int) : Int := sgnc z 0
theorem sg_zero : sg 0 = 0 := sgnc_eq rfl
theorem sg_pos {z : Int} (h : 0 < z) : sg z = 1 := sgnc_gt h
theorem sg_neg {z : Int} (h : z < 0) : sg z = -1 := sgnc_lt h
theorem sg_eq_zero {z : Int} : sg z = 0 ↔ z = 0 := by unfold sg sgnc; split <;> (try split) <;> omega
theorem intv_mul (s t : Bool) (M N : Nat) : intv s M * intv t N = intv (!(s == t)) (M * N) := by
  unfold intv; cases s <;> cases t <;> simp <;> grind
theorem intv_add (s : Bool) (M N : Nat) : intv s M + intv s N = intv s (M + N) := by unfold intv; cases s <;> simp <;> omega
theorem sg_intv (s : Bool) (N : Nat) : sg (intv s N) = if N = 0 then 0 else if s then -1 else 1 := by
  unfold sg sgnc intv; cases s <;> simp <;> (try split) <;> (try split) <;> omega
theorem sg_bd (z : Int) : -1 ≤ sg z ∧ sg z ≤ 1 := by unfold sg sgnc; split <;> (try split) <;> omega
theorem sgnc_bd (x y : Int) : -1 ≤ sgnc x y ∧ sgnc x y ≤ 1 := by unfold sgnc; split <;> (try split) <;> omega
theorem cmp_lt {x y : Int} (h : sg x < sg y) : sgnc x y = -1 := by
  have : x < y := by unfold sg sgnc at h; split at h <;> (try split at h) <;> (try split at h) <;> (try split at h) <;> omega
  exact sgnc_lt this
theorem cmp_gt {x y : Int} (h : sg y < sg x) : sgnc x y = 1 := by
  have : y < x := by unfold sg sgnc at h; split at h <;> (try split at h) <;> (try split at h) <;> (try split at h) <;> omega
  exact sgnc_gt this
theorem cmp_same {x y : Int} (h1 : ¬ sg x < sg y) (h2 : ¬ sg y < sg x) : sg x * sgnc (x.natAbs : Int) (y.natAbs : Int) = sgnc x y := by
  have h : (0 < x ∧ 0 < y) ∨ (x < 0 ∧ y < 0) ∨ (x = 0 ∧ y = 0) := by
    unfold sg sgnc at h1 h2; split at h1 <;> (try split at h1) <;> (try split at h1) <;> (try split at h1) <;> (try split at h2) <;> (try split at h2) <;> omega
  rcases h with ⟨a, b⟩ | ⟨a, b⟩ | ⟨a, b⟩
  · rw [sg_pos a, Int.one_mul]; unfold sgnc; split <;> split <;> (try split) <;> (try split) <;> omega
  · rw [sg_neg a]; unfold sgnc; split <;> (try split) <;> (try split) <;> (try split) <;> omega
  · subst a; subst b; rfl
theorem floor_ex (s1 s2 : Bool) (M N : Nat) (h : intv s2 N ∣ intv s1 M) : intv s1 (M % N) = 0 := by
  have k := Int.natAbs_dvd_natAbs.2 h
  rw [intv_natAbs, intv_natAbs] at k
  rw [Nat.mod_eq_zero_of_dvd k]; unfold intv; split <;> rfl
theorem zl_one : zl 1 ≤ 1 := lim_le (by decide)
theorem floor_no (s1 s2 : Bool) (M N : Nat) (hN : 0 < N) (h : ¬ (intv s1 (M % N) ≠ 0 ∧ sg (intv s1 (M % N)) ≠ sg (intv s2 N))) :
    Int.fdiv (intv s1 M) (intv s2 N) = intv (!(s1 == s2)) (M / N) ∧ Int.fmod (intv s1 M) (intv s2 N) = intv s1 (M % N) := by
  have e := Nat.div_add_mod M N
  have l := Nat.mod_lt M hN
  have ee : intv s1 (M % N) + intv s2 N * intv (!(s1 == s2)) (M / N) = intv s1 M := by
    rw [intv_mul]
    have : (!(s2 == !(s1 == s2))) = s1 := by cases s1 <;> cases s2 <;> rfl
    rw [this, intv_add, Nat.add_comm, e]
  rw [sg_intv, sg_intv] at h
  generalize M % N = r at *
  generalize M / N = q at *
  cases s2
  · refine (Int.fdiv_fmod_unique (by simp [intv]; omega)).2 ⟨ee, ?_⟩
    cases s1 <;> simp [intv] at h ⊢ <;> omega
  · refine (Int.fdiv_fmod_unique' (by simp [intv]; omega)).2 ⟨ee, ?_⟩
    cases s1 <;> simp [intv] at h ⊢ <;> omega
theorem floor_yes (s1 s2 : Bool) (M N : Nat) (hN : 0 < N) (h : intv s1 (M % N) ≠ 0 ∧ sg (intv s1 (M % N)) ≠ sg (intv s2 N)) :
    Int.fdiv (intv s1 M) (intv s2 N) = intv (!(s1 == s2)) (M / N) - 1 ∧ Int.fmod (intv s1 M) (intv s2 N) = intv s1 (M % N) + intv s2 N := by
  have e := Nat.div_add_mod M N
  have l := Nat.mod_lt M hN
  have ee : intv s1 (M % N) + intv s2 N * intv (!(s1 == s2)) (M / N) = intv s1 M := by
    rw [intv_mul]
    have : (!(s2 == !(s1 == s2))) = s1 := by cases s1 <;> cases s2 <;> rfl
    rw [this, intv_add, Nat.add_comm, e]
  have ef : (intv s1 (M % N) + intv s2 N) + intv s2 N * (intv (!(s1 == s2)) (M / N) - 1) = intv s1 M := by rw [Int.mul_sub, Int.mul_one]; omega
  rw [sg_intv, sg_intv] at h
  generalize M % N = r at *
  generalize M / N = q at *
  cases s2
  · refine (Int.fdiv_fmod_unique (by simp [intv]; omega)).2 ⟨ef, ?_⟩
    cases s1 <;> simp [intv] at h ⊢ <;> omega
  · refine (Int.fdiv_fmod_unique' (by simp [intv]; omega)).2 ⟨ef, ?_⟩
    cases s1 <;> simp [intv] at h ⊢ <;> omega
end Nml
namespace Mt
open Nml
theorem drop_val (a : List Int) (i : Nat) : val (a.drop i) = at_ a i + 4294967296 * val (a.drop (i + 1)) := by
  by_cases h : i < a.length
  · exact val_drop h
  · rw [List.drop_eq_nil_of_le (by omega), List.drop_eq_nil_of_le (by omega), at_ge (by omega)]; simp [val]
theorem take_val (a : List Int) (i : Nat) : val (a.take (i + 1)) = val (a.take i) + B i * at_ a i := by
  by_cases h : i < a.length
  · exact val_take_succ h
  · rw [List.take_of_length_le (by omega), List.take_of_length_le (by omega), at_ge (by omega)]; simp
theorem split_val (a : List Int) (i : Nat) : val a = val (a.take i) + B i * val (a.drop i) := by
  by_cases h : i ≤ a.length
  · exact val_split a h
  · rw [List.take_of_length_le (by omega), List.drop_eq_nil_of_le (by omega)]; simp [val]
theorem take_lt {a : List Int} (h : Lim a) (i : Nat) : 0 ≤ val (a.take i) ∧ val (a.take i) < B i := by
  have h1 := val_nonneg (h.take i)
  have h2 := val_lt (h.take i)
  have h3 : B (a.take i).length ≤ B i := B_mono (by rw [List.length_take]; omega)
  omega
theorem lt_split {a b : List Int} (ha : Lim a) (hb : Lim b) (i : Nat) (h : val (a.drop i) < val (b.drop i)) : val a < val b := by
  have h1 := split_val a i
  have h2 := split_val b i
  have h3 := take_lt ha i
  have h4 := take_lt hb i
  have h5 := Int.mul_le_mul_of_nonneg_left (show val (a.drop i) + 1 ≤ val (b.drop i) by omega) (Int.le_of_lt (B_pos i))
  rw [Int.mul_add, Int.mul_one] at h5
  omega
theorem cmp_lt {a b : List Int} (ha : Lim a) (hb : Lim b) {m : Nat} (h : val (a.drop (m + 1)) = val (b.drop (m + 1))) (hx : at_ a m < at_ b m) : val a < val b := lt_split ha hb m (by rw [drop_val, drop_val b, h]; omega)
theorem cmp_eq {a b : List Int} {m : Nat} (h : val (a.drop (m + 1)) = val (b.drop (m + 1))) (h1 : ¬ at_ a m < at_ b m) (h2 : ¬ at_ b m < at_ a m) : val (a.drop m) = val (b.drop m) := by rw [drop_val, drop_val b, h]; omega
def sumI (xs ys zs : List Int) (k : Nat) (c : Int) : Prop := 0 ≤ c ∧ c ≤ 1 ∧ zs.length = k ∧ Lim zs ∧ val zs + B k * c = val (xs.take k) + val (ys.take k)
theorem sumI_start (xs ys : List Int) : sumI xs ys [] 0 0 := ⟨by omega, by omega, rfl, Lim.nil, by simp [val]⟩
theorem sumI_step {xs ys zs : List Int} {k : Nat} {c : Int} (h : sumI xs ys zs k c) (hx : Lim xs) (hy : Lim ys) : sumI xs ys (zs ++ [(c + at_ xs k + at_ ys k) % 4294967296]) (k + 1) ((c + at_ xs k + at_ ys k) / 4294967296) := by
  obtain ⟨h0, h1, h2, h3, h4⟩ := h
  have hx1 := hx.at_ k
  have hy1 := hy.at_ k
  refine ⟨by omega, by omega, by simp [h2], h3.append (Lim.one (by omega) (by omega)), ?_⟩
  rw [val_snoc, h2, take_val, take_val, B_succ]
  have e : (c + at_ xs k + at_ ys k) % 4294967296 + 4294967296 * ((c + at_ xs k + at_ ys k) / 4294967296) = c + at_ xs k + at_ ys k := by omega
  have e2 := congrArg (fun t => B k * t) e
  simp only [Int.mul_add] at e2
  have e3 : 4294967296 * B k * ((c + at_ xs k + at_ ys k) / 4294967296) = B k * (4294967296 * ((c + at_ xs k + at_ ys k) / 4294967296)) := by rw [Int.mul_comm 4294967296, Int.mul_assoc]
  omega
theorem sumI_end {xs ys zs : List Int} {k : Nat} {c : Int} (h : sumI xs ys zs k c) (hx : xs.length ≤ k) (hy : ys.length ≤ k) : val (zs ++ [c]) = val xs + val ys ∧ Lim (zs ++ [c]) := by
  obtain ⟨h0, h1, h2, h3, h4⟩ := h
  rw [List.take_of_length_le hx, List.take_of_length_le hy] at h4
  exact ⟨by rw [val_snoc, h2]; exact h4, h3.append (Lim.one (by omega) (by omega))⟩
def difI (xs ys zs : List Int) (k : Nat) (c : Int) : Prop := 0 ≤ c ∧ c ≤ 1 ∧ zs.length = k ∧ Lim zs ∧ val zs - B k * c = val (xs.take k) - val (ys.take k)
theorem difI_start (xs ys : List Int) : difI xs ys [] 0 0 := ⟨by omega, by omega, rfl, Lim.nil, by simp [val]⟩
theorem difI_step {xs ys zs : List Int} {k : Nat} {c : Int} (h : difI xs ys zs k c) (hx : Lim xs) (hy : Lim ys) (v b : Int) (hv : v - 4294967296 * b = at_ xs k - (at_ ys k + c)) (hb0 : 0 ≤ b) (hb1 : b ≤ 1) (h0 : 0 ≤ v) (h1 : v ≤ 4294967295) : difI xs ys (zs ++ [v]) (k + 1) b := by
  obtain ⟨h0', h1', h2, h3, h4⟩ := h
  refine ⟨hb0, hb1, by simp [h2], h3.append (Lim.one h0 (by omega)), ?_⟩
  rw [val_snoc, h2, take_val, take_val, B_succ]
  have e2 := congrArg (fun t => B k * t) hv
  simp only [Int.mul_sub, Int.mul_add] at e2
  have e3 : 4294967296 * B k * b = B k * (4294967296 * b) := by rw [Int.mul_comm 4294967296, Int.mul_assoc]
  omega
theorem difI_end {xs ys zs : List Int} {k : Nat} {c : Int} (h : difI xs ys zs k c) (hx : xs.length ≤ k) (hxl : Lim xs) (hyl : Lim ys) (hle : val ys ≤ val xs) : val zs = val xs - val ys := by
  obtain ⟨h0, h1, h2, h3, h4⟩ := h
  rw [List.take_of_length_le hx] at h4
  have s1 := split_val ys k
  have s2 := take_lt hyl k
  have s3 := val_lt h3
  rw [h2] at s3
  have s4 := val_nonneg (hyl.drop k)
  have s5 := val_nonneg h3
  have s8 := val_lt hxl
  have s9 : B xs.length ≤ B k := B_mono hx
  have s6 : val (ys.drop k) = 0 := by
    rcases Int.lt_trichotomy (val (ys.drop k)) 0 with q | q | q
    · omega
    · exact q
    · have := Int.mul_le_mul_of_nonneg_left (show 1 ≤ val (ys.drop k) by omega) (Int.le_of_lt (B_pos k)); omega
  rw [s6] at s1
  rcases (show c = 0 ∨ c = 1 by omega) with q | q <;> subst q <;> omega
def mulI (xs ys zs : List Int) (i j : Nat) (c : Int) : Prop := 0 ≤ c ∧ c < 4294967296 ∧ zs.length = xs.length + ys.length ∧ Lim zs ∧ (∀ q, i + ys.length ≤ q → at_ zs q = 0) ∧ val zs + B (i + j) * c = val (xs.take i) * val ys + B i * (at_ xs i * val (ys.take j))
def mulO (xs ys zs : List Int) (i : Nat) : Prop := zs.length = xs.length + ys.length ∧ Lim zs ∧ (∀ q, i + ys.length ≤ q → at_ zs q = 0) ∧ val zs = val (xs.take i) * val ys
theorem mulO_start (xs ys : List Int) : mulO xs ys (List.replicate (xs.length + ys.length) 0) 0 := ⟨by simp, Lim.noughts _, fun q _ => at_noughts _ _, by rw [val_noughts]; simp [val]⟩
theorem mulI_start {xs ys zs : List Int} {i : Nat} (h : mulO xs ys zs i) : mulI xs ys zs i 0 0 := ⟨by omega, by omega, h.1, h.2.1, h.2.2.1, by rw [h.2.2.2]; simp [val]⟩
theorem mul_bd {x y : Int} (hx0 : 0 ≤ x) (hx1 : x < 4294967296) (hy0 : 0 ≤ y) (hy1 : y < 4294967296) : 0 ≤ x * y ∧ x * y ≤ 18446744065119617025 :=
  ⟨Int.mul_nonneg hx0 hy0, by have := Int.mul_le_mul (show x ≤ 4294967295 by omega) (show y ≤ 4294967295 by omega) hy0 (by omega); omega⟩
theorem mulI_step {xs ys zs : List Int} {i j : Nat} {c s : Int} (h : mulI xs ys zs i j c) (hi : i < xs.length) (hj : j < ys.length) (hx : Lim xs) (hy : Lim ys) (hs : s = c + at_ zs (i + j) + at_ xs i * at_ ys j) : mulI xs ys (zs.set (i + j) (s % 4294967296)) i (j + 1) (s / 4294967296) := by
  obtain ⟨h0, h1, ho, hl, hz, hv⟩ := h
  have l1 := hx.at_ i
  have l2 := hy.at_ j
  have l3 := hl.at_ (i + j)
  have m := mul_bd l1.1 l1.2 l2.1 l2.2
  have hlt : i + j < zs.length := by omega
  have m0 : 0 ≤ s % 4294967296 ∧ s % 4294967296 < 4294967296 ∧ 0 ≤ s / 4294967296 ∧ s / 4294967296 < 4294967296 := by omega
  refine ⟨m0.2.2.1, m0.2.2.2, by rw [List.length_set]; exact ho, hl.set _ m0.1 m0.2.1, fun q hq => ?_, ?_⟩
  · rw [at_set_ne _ (by omega)]; exact hz q hq
  · rw [val_set _ hlt, take_val, show i + (j + 1) = i + j + 1 by omega, B_succ]
    have e : s % 4294967296 - at_ zs (i + j) + 4294967296 * (s / 4294967296) = c + at_ xs i * at_ ys j := by omega
    have e1 := congrArg (fun t => B (i + j) * t) e
    simp only [Int.mul_add] at e1
    have e3 : 4294967296 * B (i + j) * (s / 4294967296) = B (i + j) * (4294967296 * (s / 4294967296)) := by rw [Int.mul_comm 4294967296, Int.mul_assoc]
    have e2 : B i * (at_ xs i * (val (ys.take j) + B j * at_ ys j)) = B i * (at_ xs i * val (ys.take j)) + B (i + j) * (at_ xs i * at_ ys j) := by
      rw [B_add, Int.mul_add, Int.mul_add, Int.mul_left_comm (at_ xs i) (B j), Int.mul_assoc]
    rw [e2]
    omega
theorem mulI_end {xs ys zs : List Int} {i : Nat} {c : Int} (h : mulI xs ys zs i ys.length c) (hi : i < xs.length) : mulO xs ys (zs.set (i + ys.length) c) (i + 1) := by
  obtain ⟨h0, h1, ho, hl, hz, hv⟩ := h
  have hlt : i + ys.length < zs.length := by omega
  refine ⟨by rw [List.length_set]; exact ho, hl.set _ h0 h1, fun q hq => ?_, ?_⟩
  · rw [at_set_ne _ (by omega)]; exact hz q (by omega)
  · rw [val_set _ hlt, hz _ (Nat.le_refl _), Int.sub_zero, take_val, Int.add_mul, Int.mul_assoc, hv, List.take_length]
theorem mulO_end {xs ys zs : List Int} {i : Nat} (h : mulO xs ys zs i) (hi : xs.length ≤ i) : val zs = val xs * val ys := by rw [h.2.2.2, List.take_of_length_le hi]
theorem at_pad (l : List Int) (n j : Nat) : at_ (l ++ List.replicate n 0) j = at_ l j := by
  by_cases h : j < l.length
  · unfold at_; rw [List.getD_eq_getElem?_getD, List.getD_eq_getElem?_getD, List.getElem?_append_left h]
  · rw [at_ge (xs := l) (by omega)]
    unfold at_; rw [List.getD_eq_getElem?_getD, List.getElem?_append_right (by omega)]
    have := at_noughts n (j - l.length)
    unfold at_ at this; rw [List.getD_eq_getElem?_getD] at this
    exact this
theorem val_pad (l : List Int) (n : Nat) : val (l ++ List.replicate n 0) = val l := by rw [val_append, val_noughts, Int.mul_zero, Int.add_zero]
theorem guess_up (rest v : List Int) (hr : Lim rest) (hv : Lim v) (m : Nat) (hvl : v.length = m + 1) (hrl : rest.length ≤ m + 2) (hlt : val rest < 4294967296 * val v) (hv1 : 0 < at_ v m) (hV : 0 < val v) :
    ∃ c Q : Nat, val rest / val v = Q ∧ Q + c < 4294967296 ∧ mnI ((at_ rest (m + 1) * 4294967296 + at_ rest m) / at_ v m) 4294967295 = ((Q + c : Nat) : Int) := by
  have h := guess_ok (us := rest ++ List.replicate (m + 2 - rest.length) 0) (vs := v) (m := m) (hr.append (Lim.noughts _)) hv (by rw [List.length_append, List.length_replicate]; omega) hvl (by rw [val_pad]; exact hlt) hv1 _ rfl
  rw [at_pad, at_pad, val_pad] at h
  obtain ⟨g0, g1, g2⟩ := h
  generalize mnI ((at_ rest (m + 1) * 4294967296 + at_ rest m) / at_ v m) 4294967295 = g at *
  have q0 : 0 ≤ val rest / val v := Int.ediv_nonneg (val_nonneg hr) (by omega)
  have q1 : val rest / val v < g + 1 := Int.ediv_lt_of_lt_mul hV g2
  exact ⟨(g - val rest / val v).toNat, (val rest / val v).toNat, by omega, by omega, by omega⟩
theorem pw_lt {r : Nat} (h : r < 32) : 0 < (2 : Int) ^ r ∧ (2 : Int) ^ r < 4294967296 := by
  have h1 : 0 < (2 : Int) ^ r := Int.pow_pos (by decide)
  have h2 : (2 : Nat) ^ r < 2 ^ 32 := Nat.pow_lt_pow_right (by omega) h
  have h3 : ((2 ^ r : Nat) : Int) = (2 : Int) ^ r := by simp
  omega
theorem two_lim (n : Nat) : Lim (List.replicate (n / 32) 0 ++ [(2 : Int) ^ (n % 32)]) := (Lim.noughts _).append (Lim.one (by have := pw_lt (show n % 32 < 32 by omega); omega) (by have := pw_lt (show n % 32 < 32 by omega); omega))
theorem two_val (n : Nat) : val (List.replicate (n / 32) 0 ++ [(2 : Int) ^ (n % 32)]) = ((2 ^ n : Nat) : Int) := by
  rw [val_snoc, val_noughts, List.length_replicate, Int.zero_add, B_two]
  have : (2 : Nat) ^ n = 2 ^ (32 * (n / 32)) * 2 ^ (n % 32) := by rw [← Nat.pow_add]; congr 1; omega
  rw [this]; simp
theorem two_len (n : Nat) : (List.replicate (n / 32) 0 ++ [(2 : Int) ^ (n % 32)]).length = n / 32 + 1 := by simp
theorem shr_m1 (l out : List Int) (h : Lim l) (q r k0 : Nat) (x : Int) (hr : r < 32) (hi : k0 + q < l.length) (ho : out.length = k0) (hl : Lim out) (hx : x = at_ l (k0 + q) + at_ l (k0 + q + 1) * 4294967296) (hv : val out = val (l.drop q) / 2 ^ r % B k0) :
    Lim (out ++ [x / 2 ^ r % 4294967296]) ∧ val (out ++ [x / 2 ^ r % 4294967296]) = val (l.drop q) / 2 ^ r % B (k0 + 1) := by
  have hs0 : shrI l (out ++ [0]) (k0 + 1) q r k0 := ⟨by rw [List.length_append, List.length_singleton, ho], hl.append (Lim.one (Int.le_refl _) (by decide)), by rw [List.take_append_of_le_length (Nat.le_of_eq ho.symm), List.take_of_length_le (Nat.le_of_eq ho)]; exact hv⟩
  have hs1 := shrI_step hs0 hr hi (Nat.lt_succ_self _) h
  rw [← hx] at hs1
  have hset : (out ++ [0]).set k0 (x / 2 ^ r % 4294967296) = out ++ [x / 2 ^ r % 4294967296] := by rw [← ho, List.set_append_right _ _ (Nat.le_refl _), Nat.sub_self]; rfl
  rw [hset] at hs1
  refine ⟨hs1.lim, ?_⟩
  have hv1 := hs1.2.2
  rw [List.take_of_length_le (by rw [List.length_append, List.length_singleton, ho]; exact Nat.le_refl _)] at hv1
  exact hv1
theorem nbits_half {w : Nat} (h : 0 < w) : nbits w = nbits (w / 2) + 1 := by
  by_cases h0 : w / 2 = 0
  · rw [show w = 1 by omega]; rfl
  · have h1 := pow_le_nbits h0
    have h2 := lt_nbits (w / 2)
    have h3 : 1 ≤ nbits (w / 2) := by unfold nbits; rw [if_neg h0]; omega
    obtain ⟨m, hm⟩ : ∃ m, nbits (w / 2) = m + 1 := ⟨nbits (w / 2) - 1, by omega⟩
    rw [hm] at h1 h2 ⊢
    rw [Nat.add_sub_cancel] at h1
    exact nbits_eq (by rw [Nat.pow_succ]; omega) (by rw [Nat.pow_succ]; omega)
theorem bits_of {l : List Int} (h : Lim l) {m : Nat} (hm : m < l.length) (ht : tl l (m + 1) = tl l l.length) (h0 : at_ l m ≠ 0) {N : Nat} (hN : val l = N) : nbits N = 32 * m + nbits (at_ l m).toNat := by
  have e : l.take (tl l l.length) = dig N := dig_of (h.take _) (tl_can (Nat.le_refl _)) (by rw [tl_val (Nat.le_refl _), List.take_length]; exact hN)
  rw [← ht, show tl l (m + 1) = m + 1 by simp [tl, h0]] at e
  have hl : lim N = m + 1 := by unfold lim; rw [← e, List.length_take]; omega
  have ha : at_ (dig N) m = at_ l m := by
    rw [← e]
    unfold at_
    rw [List.getD_eq_getElem?_getD, List.getD_eq_getElem?_getD, List.getElem?_take_of_lt (by omega)]
  have hb := (nbits_top hl).1
  rwa [ha] at hb
theorem bits_zero {l : List Int} (h : Lim l) (ht : 0 = tl l l.length) {N : Nat} (hN : val l = N) : N = 0 := by
  have e : l.take (tl l l.length) = dig N := dig_of (h.take _) (tl_can (Nat.le_refl _)) (by rw [tl_val (Nat.le_refl _), List.take_length]; exact hN)
  rw [← ht] at e
  have h2 := dig_val N
  rw [← e] at h2
  simp [val] at h2
  omega
theorem two_dig (n : Nat) : List.replicate (n / 32) 0 ++ [(2 : Int) ^ (n % 32)] = dig (2 ^ n) := dig_of (two_lim n) (by unfold Can; simp; have := pw_lt (show n % 32 < 32 by omega); omega) (two_val n)
theorem shr_end {l out : List Int} (h : Lim l) {n k : Nat} (hl : Lim out) (ho : out.length = k) (hk : l.length = k + n / 32) (hv : val out = val (l.drop (n / 32)) / 2 ^ (n % 32) % B k) : val out = val l / 2 ^ n := by
  have hsh : shrI l out k (n / 32) (n % 32) k := ⟨ho, hl, by rw [List.take_of_length_le (by omega)]; exact hv⟩
  have he := shrI_end hsh hk h
  rwa [show 32 * (n / 32) + n % 32 = n by omega] at he
theorem two_limb (n : Nat) : lim (2 ^ n) ≤ n / 32 + 1 := by unfold lim; rw [← two_dig]; simp
theorem nbits_len {l : List Int} (h : Lim l) {N : Nat} (hN : val l = N) : nbits N ≤ 32 * l.length := nbits_le (by have := val_lt h; rw [hN, B_two] at this; exact Int.ofNat_lt.1 this)
theorem div_zero_of {M n : Nat} (h : nbits M ≤ n) : M / 2 ^ n = 0 := Nat.div_eq_of_lt (Nat.lt_of_lt_of_le (lt_nbits M) (Nat.pow_le_pow_right (by omega) h))
theorem lim_ps {N : Nat} (h : 0 < N) : 0 < lim N := by
  rcases Nat.eq_zero_or_pos (lim N) with h0 | h0
  · have := lt_B_lim N; rw [h0, B_zero] at this; omega
  · exact h0
theorem at_one {N : Nat} (h : lim N = 1) : at_ (dig N) 0 = N := by
  have := dig_val N
  obtain ⟨x, hx⟩ := List.length_eq_one_iff.1 (show (dig N).length = 1 from h)
  rw [hx] at this ⊢
  simp [val] at this
  simpa [at_] using this
def dvI (us qs : List Int) (V k R : Nat) : Prop := qs.length = us.length ∧ Lim qs ∧ (∀ j, j < k → at_ qs j = 0) ∧ val (us.drop k) = V * val (qs.drop k) + R ∧ R < V
theorem dvI_start (us : List Int) {V : Nat} (h : 0 < V) : dvI us (List.replicate us.length 0) V us.length 0 := ⟨by simp, Lim.noughts _, fun j _ => at_noughts _ _, by simp [val], h⟩
def nextR (us : List Int) (m R : Nat) : Nat := (at_ us m).toNat + 4294967296 * R
theorem nextR_val {us : List Int} (h : Lim us) (m R : Nat) : ((nextR us m R : Nat) : Int) = at_ us m + 4294967296 * R := by have := h.at_ m; unfold nextR; omega
theorem nextR_lt {us qs : List Int} {V m R : Nat} (h : dvI us qs V (m + 1) R) (hl : Lim us) : nextR us m R < 4294967296 * V := by have := hl.at_ m; have := h.2.2.2.2; unfold nextR; omega
theorem dvI_skip {us qs : List Int} {V m R : Nat} (h : dvI us qs V (m + 1) R) (hm : m < us.length) (hl : Lim us) (hlt : nextR us m R < V) : dvI us qs V m (nextR us m R) := by
  obtain ⟨h1, h2, h3, h4, h5⟩ := h
  refine ⟨h1, h2, fun j hj => h3 j (by omega), ?_, hlt⟩
  rw [drop_val us, drop_val qs, h3 m (by omega), h4, nextR_val hl, Int.zero_add, Int.mul_add, Int.mul_left_comm (V : Int)]
  omega
theorem dvI_put {us qs : List Int} {V m R : Nat} (h : dvI us qs V (m + 1) R) (hm : m < us.length) (hl : Lim us) (hV : 0 < V) : dvI us (qs.set m ((nextR us m R / V : Nat) : Int)) V m (nextR us m R % V) := by
  have hlt := nextR_lt h hl
  obtain ⟨h1, h2, h3, h4, h5⟩ := h
  have hd : nextR us m R / V < 4294967296 := Nat.div_lt_of_lt_mul (by rw [Nat.mul_comm]; exact hlt)
  refine ⟨by rw [List.length_set]; exact h1, h2.set _ (Int.natCast_nonneg _) (Int.ofNat_lt.2 hd), fun j hj => by rw [at_set_ne _ (by omega)]; exact h3 j (by omega), ?_, Nat.mod_lt _ hV⟩
  rw [drop_val us, drop_set _ (by omega), val_cons, h4]
  have e := Nat.div_add_mod (nextR us m R) V
  have e2 : ((V * (nextR us m R / V) + nextR us m R % V : Nat) : Int) = at_ us m + 4294967296 * R := by rw [e]; exact nextR_val hl m R
  rw [Int.natCast_add, Int.natCast_mul] at e2
  rw [Int.mul_add, Int.mul_add, Int.mul_left_comm (V : Int)]
  omega
theorem dvI_end {us qs : List Int} {V R U : Nat} (h : dvI us qs V 0 R) (hU : val us = U) : val qs = ((U / V : Nat) : Int) ∧ R = U % V := by
  obtain ⟨h1, h2, h3, h4, h5⟩ := h
  rw [List.drop_zero, List.drop_zero, hU] at h4
  have p := val_nonneg h2
  obtain ⟨q, hq⟩ : ∃ q : Nat, val qs = q := ⟨(val qs).toNat, by omega⟩
  rw [hq] at h4 ⊢
  have h6 : U = V * q + R := by exact_mod_cast h4
  have hV : 0 < V := by omega
  have h7 : U / V = q := by rw [h6, Nat.mul_add_div hV, Nat.div_eq_of_lt h5, Nat.add_zero]
  have h8 : U % V = R := by rw [h6, Nat.mul_add_mod, Nat.mod_eq_of_lt h5]
  exact ⟨by rw [h7], h8.symm⟩
theorem top_set {N s : Nat} (hN : 0 < N) (hs : s = 32 * lim N - nbits N) : lim (N * 2 ^ s) = lim N ∧ 2147483648 ≤ at_ (dig (N * 2 ^ s)) (lim N - 1) := by
  have hl := lim_ps hN
  obtain ⟨k, hk⟩ : ∃ k, lim N = k + 1 := ⟨lim N - 1, by omega⟩
  have hb := (nbits_top hk).1
  have h1 : nbits (at_ (dig N) k).toNat ≤ 32 := nbits_le (by have := (dig_lim N).at_ k; omega)
  have h2 := (nbits_top hk).2
  have h3 := (dig_lim N).at_ k
  have h4 : 1 ≤ nbits (at_ (dig N) k).toNat := by unfold nbits; rw [if_neg (by omega)]; omega
  have hn0 : N ≠ 0 := by omega
  have h5 := pow_le_nbits hn0
  have h6 := lt_nbits N
  have e : s + nbits N = 32 * (k + 1) := by omega
  have p1 : 2 ^ (32 * (k + 1) - 1) ≤ N * 2 ^ s := by
    have := Nat.mul_le_mul_right (2 ^ s) h5
    rwa [← Nat.pow_add, show nbits N - 1 + s = 32 * (k + 1) - 1 by omega] at this
  have p2 : N * 2 ^ s < 2 ^ (32 * (k + 1)) := by
    have := Nat.mul_lt_mul_of_pos_right h6 (show 0 < 2 ^ s from Nat.pow_pos (by omega))
    rwa [← Nat.pow_add, show nbits N + s = 32 * (k + 1) by omega] at this
  have q1 : lim (N * 2 ^ s) ≤ k + 1 := lim_le (by rw [B_two]; exact Int.ofNat_lt.2 p2)
  have q2 : k + 1 ≤ lim (N * 2 ^ s) := by
    apply Nat.le_of_not_lt
    intro hlt
    have h7 := lt_B_lim (N * 2 ^ s)
    have h8 := B_mono (show lim (N * 2 ^ s) ≤ k by omega)
    rw [B_two k] at h8
    have h9 : N * 2 ^ s < 2 ^ (32 * k) := Int.ofNat_lt.1 (Int.lt_of_lt_of_le h7 h8)
    have h10 : 2 ^ (32 * k) ≤ 2 ^ (32 * (k + 1) - 1) := Nat.pow_le_pow_right (by omega) (by omega)
    omega
  have q : lim (N * 2 ^ s) = k + 1 := by omega
  refine ⟨by rw [q, hk], ?_⟩
  rw [hk, Nat.add_sub_cancel]
  have ht := (nbits_top q).1
  have hn : nbits (N * 2 ^ s) = 32 * (k + 1) := by
    have := nbits_eq (n := N * 2 ^ s) (k := 32 * (k + 1) - 1) p1 (by rw [show 32 * (k + 1) - 1 + 1 = 32 * (k + 1) by omega]; exact p2)
    omega
  have h11 := (dig_lim (N * 2 ^ s)).at_ k
  have h12 : nbits (at_ (dig (N * 2 ^ s)) k).toNat = 32 := by omega
  have h13 : (at_ (dig (N * 2 ^ s)) k).toNat ≠ 0 := fun h => by rw [h] at h12; simp [nbits] at h12
  have h14 := pow_le_nbits h13
  rw [h12] at h14
  have : (2 : Nat) ^ (32 - 1) = 2147483648 := by decide
  omega
theorem lim_next {R V n : Nat} (h : R < 4294967296 * V) (hV : lim V ≤ n) : lim R ≤ n + 1 := lim_le (by
  have h1 := lt_B_lim V
  have h2 := B_mono hV
  rw [B_succ]
  omega)
theorem guess_nat {R V m : Nat} (hl : lim V = m + 1) (ht : 2147483648 ≤ at_ (dig V) m) (h : R < 4294967296 * V) : ∃ c, R / V + c < 4294967296 ∧ mnI ((at_ (dig R) (m + 1) * 4294967296 + at_ (dig R) m) / at_ (dig V) m) 4294967295 = ((R / V + c : Nat) : Int) := by
  have hV : 0 < V := by
    rcases Nat.eq_zero_or_pos V with h0 | h0
    · subst h0; rw [lim_zero] at hl; omega
    · exact h0
  obtain ⟨c, Q, h1, h2, h3⟩ := guess_up (dig R) (dig V) (dig_lim _) (dig_lim _) m hl (lim_next h (Nat.le_of_eq hl)) (by rw [dig_val, dig_val]; omega) (by omega) (by rw [dig_val]; omega)
  rw [dig_val, dig_val] at h1
  have h4 : R / V = Q := by exact_mod_cast h1
  exact ⟨c, by omega, by rw [h3, h4]⟩
theorem div_shift (M N s : Nat) (hN : 0 < N) : M * 2 ^ s / (N * 2 ^ s) = M / N ∧ M * 2 ^ s % (N * 2 ^ s) / 2 ^ s = M % N := by
  have h2 : 0 < 2 ^ s := Nat.pow_pos (by omega)
  refine ⟨Nat.mul_div_mul_right _ _ h2, ?_⟩
  rw [Nat.mul_mod_mul_right, Nat.mul_div_cancel _ h2]
theorem lim_small {N : Nat} (h : N < 4294967296) : lim N ≤ 1 := lim_le (by rw [B_succ, B_zero]; omega)
theorem sgnc_neg {a b : Nat} (h : sgnc a b < 0) : a < b := by
  rcases Nat.lt_trichotomy a b with h1 | h1 | h1
  · exact h1
  · rw [sgnc_eq (by omega)] at h; omega
  · rw [sgnc_gt (by omega)] at h; omega
theorem sgnc_not {a b : Nat} (h : a ≤ b) : ¬ 0 < sgnc a b := by
  rcases Nat.lt_or_eq_of_le h with h1 | h1
  · rw [sgnc_lt (by omega)]; omega
  · rw [sgnc_eq (by omega)]; omega
theorem sgnc_yes {a b : Nat} (h : b < a) : 0 < sgnc a b := by rw [sgnc_gt (by omega)]; omega
theorem nextR_lim {us : List Int} (h : Lim us) (m R : Nat) : Lim (at_ us m :: dig R) := Lim.cons (h.at_ m).1 (h.at_ m).2 (dig_lim R)
theorem nextR_is {us : List Int} (h : Lim us) (m R : Nat) : val (at_ us m :: dig R) = ((nextR us m R : Nat) : Int) := by rw [val_cons, dig_val, nextR_val h]
theorem dvI_put' {us qs : List Int} {V m R Q p : Nat} (h : dvI us qs V (m + 1) R) (hm : m < us.length) (hl : Lim us) (hV : 0 < V) (hQ : Q = nextR us m R / V) (hp : p = V * Q) : dvI us (qs.set m (Q : Int)) V m (nextR us m R - p) := by
  have h1 := dvI_put h hm hl hV
  rw [← hQ] at h1
  have h2 := Nat.div_add_mod (nextR us m R) V
  rw [← hQ, ← hp] at h2
  rwa [show nextR us m R - p = nextR us m R % V by omega]
theorem mul_pred {V Q e p : Nat} (h : p = V * (Q + (e + 1))) : V ≤ p ∧ p - V = V * (Q + e) := by
  have : V * (Q + (e + 1)) = V * (Q + e) + V := by rw [← Nat.add_assoc, Nat.mul_succ]
  omega
theorem mn_small {x c : Int} {k : Int} (h : mnI x k = c) (hx : x ≤ k) : x = c := by unfold mnI at h; split at h <;> omega
theorem mn_big {x c : Int} {k : Int} (h : mnI x k = c) (hx : k < x) : k = c := by unfold mnI at h; split at h <;> omega
theorem lt_mul_next {V Q e n : Nat} (hV : 0 < V) (hQ : Q = n / V) : n < V * (Q + (e + 1)) := by
  have h1 : n < V * (Q + 1) := by rw [hQ]; exact Nat.lt_mul_div_succ n hV
  exact Nat.lt_of_lt_of_le h1 (Nat.mul_le_mul_left V (by omega))
theorem lim_gcd {M N a b : Nat} (ha : lim M ≤ a) (hb : lim N ≤ b) : lim (Nat.gcd M N) ≤ max a b := by
  rcases Nat.eq_zero_or_pos M with h | h
  · rw [h, Nat.gcd_zero_left]; omega
  · exact Nat.le_trans (lim_mono (Nat.gcd_le_left N h)) (by omega)
theorem lim_add2 {M N a b : Nat} (h : lim M ≤ a) (h' : lim N ≤ b) : lim (M + N) ≤ a + b + 1 := lim_add (Nat.le_trans h (Nat.le_add_right _ _)) (Nat.le_trans h' (Nat.le_add_left _ _))
theorem zl_mul {a b : Int} {k l : Nat} (h : zl a ≤ k) (h' : zl b ≤ l) : zl (a * b) ≤ k + l := by unfold zl at *; rw [Int.natAbs_mul]; exact Nat.le_trans (lim_mul _ _) (Nat.add_le_add h h')
theorem zl_add {a b : Int} {k l : Nat} (h : zl a ≤ k) (h' : zl b ≤ l) : zl (a + b) ≤ k + l + 1 := by unfold zl at *; exact Nat.le_trans (lim_mono (Int.natAbs_add_le _ _)) (lim_add2 h h')
theorem zl_neg {a : Int} {k : Nat} (h : zl a ≤ k) : zl (-a) ≤ k := by unfold zl at *; rwa [Int.natAbs_neg]
theorem zl_sub {a b : Int} {k l : Nat} (h : zl a ≤ k) (h' : zl b ≤ l) : zl (a - b) ≤ k + l + 1 := by rw [Int.sub_eq_add_neg]; exact zl_add h (zl_neg h')
theorem zl_gcd {a b : Int} {k l : Nat} (h : zl a ≤ k) (h' : zl b ≤ l) : zl (Int.gcd a b) ≤ max k l := by unfold zl at *; rw [Int.natAbs_natCast]; exact lim_gcd h h'
theorem zl_of {n : Int} (h0 : -9223372036854775808 ≤ n) (h1 : n < 9223372036854775808) : zl n ≤ 2 := by unfold zl; exact lim_le (by rw [B_succ, B_succ, B_zero]; omega)
def QB (q : Rat) (b : Nat) : Prop := zl q.num ≤ b ∧ zl (q.den : Int) ≤ b
theorem zl_num {q : Rat} {b : Nat} (h : QB q b) : zl q.num ≤ b := h.1
theorem zl_den {q : Rat} {b : Nat} (h : QB q b) : zl (q.den : Int) ≤ b := h.2
theorem zl_div {x : Int} (y : Int) {k : Nat} (h : zl x ≤ k) : zl (x / y) ≤ k := Nat.le_trans (lim_mono (Int.natAbs_ediv_le_natAbs x y)) h
theorem rat_made {x y : Int} (h : 0 < y) : ((x : Rat) / y).num = x / ((Int.gcd x y : Nat) : Int) ∧ (((x : Rat) / y).den : Int) = y / ((Int.gcd x y : Nat) : Int) := by
  rw [← Rat.divInt_eq_div, Rat.num_divInt, Rat.den_divInt]
  rw [Int.gcd_comm y x, Int.sign_eq_one_of_pos h, Int.one_mul, if_neg (by omega)]
  refine ⟨rfl, ?_⟩
  rw [Int.natCast_ediv, Int.natAbs_of_nonneg (by omega)]
theorem rat_neg (x y : Int) : ((-x : Int) : Rat) / ((-y : Int) : Rat) = (x : Rat) / y := by
  rw [← Rat.divInt_eq_div, ← Rat.divInt_eq_div, Rat.neg_divInt_neg]
theorem qb_div {x y : Int} {k l : Nat} (hx : zl x ≤ k) (hy : zl y ≤ l) (h0 : y ≠ 0) : QB ((x : Rat) / y) (max k l) := by
  rcases Int.lt_or_gt_of_ne h0 with h | h
  · have := rat_made (x := -x) (y := -y) (by omega)
    rw [rat_neg] at this
    unfold QB
    rw [this.1, this.2]
    exact ⟨Nat.le_trans (zl_div _ (zl_neg hx)) (Nat.le_max_left _ _), Nat.le_trans (zl_div _ (zl_neg hy)) (Nat.le_max_right _ _)⟩
  · have := rat_made (x := x) h
    unfold QB
    rw [this.1, this.2]
    exact ⟨Nat.le_trans (zl_div _ hx) (Nat.le_max_left _ _), Nat.le_trans (zl_div _ hy) (Nat.le_max_right _ _)⟩
theorem gcd_nz {x y : Int} (h : y ≠ 0) : ((Int.gcd x y : Nat) : Int) ≠ 0 := by
  have : Int.gcd x y ≠ 0 := fun e => h (Int.gcd_eq_zero_iff.1 e).2
  omega
theorem rat_whole (x : Int) : ((x : Rat)).num = x ∧ (((x : Rat)).den : Int) = 1 := ⟨Rat.num_intCast x, by rw [Rat.den_intCast]; rfl⟩
theorem rat_of (q : Rat) : (q.num : Rat) / ((q.den : Int) : Rat) = q := by rw [← Rat.divInt_eq_div]; exact Rat.num_divInt_den q
end Mt
end Go.Proofs.Ytlmiadjogdfjkaa
