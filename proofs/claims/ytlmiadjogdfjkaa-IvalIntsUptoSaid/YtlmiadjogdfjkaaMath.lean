/- Plain facts on lists of limbs (base 2^32): the number that a list says, lists in one form. No program in sight. -/
import Derived.Lib.Hide
set_option linter.unusedVariables false
set_option linter.unusedSimpArgs false
namespace Go.Proofs.Ytlmiadjogdfjkaa
namespace Mt

/-- The number that limbs say, the lowest first. -/
def val : List Int → Int
  | [] => 0
  | x :: xs => x + 4294967296 * val xs
/-- Limbs are limbs. -/
def Lim (xs : List Int) : Prop := ∀ x, x ∈ xs → 0 ≤ x ∧ x < 4294967296
/-- No nought at the end. -/
def Can (xs : List Int) : Prop := xs.getLast? ≠ some 0
/-- An element; 0 behind the end. -/
def at_ (xs : List Int) (k : Nat) : Int := xs.getD k 0
/-- 2^32 to the k. -/
def B (k : Nat) : Int := 4294967296 ^ k

theorem B_zero : B 0 = 1 := rfl
theorem B_succ (k : Nat) : B (k + 1) = 4294967296 * B k := by unfold B; rw [Int.pow_succ]; omega
theorem B_pos (k : Nat) : 0 < B k := by unfold B; exact Int.pow_pos (by omega)
theorem B_add (j k : Nat) : B (j + k) = B j * B k := by unfold B; rw [Int.pow_add]
theorem B_mono {j k : Nat} (h : j ≤ k) : B j ≤ B k := by
  obtain ⟨d, rfl⟩ : ∃ d, k = j + d := ⟨k - j, by omega⟩
  rw [B_add]
  have h1 := B_pos j
  have h2 := B_pos d
  calc B j = B j * 1 := by rw [Int.mul_one]
    _ ≤ B j * B d := Int.mul_le_mul_of_nonneg_left (by omega) (by omega)

theorem val_nil : val [] = 0 := rfl
theorem val_cons (x : Int) (xs : List Int) : val (x :: xs) = x + 4294967296 * val xs := rfl
theorem Lim.nil : Lim [] := fun _ h => by cases h
theorem Lim.tail {x : Int} {xs : List Int} (h : Lim (x :: xs)) : Lim xs := fun y hy => h y (List.mem_cons_of_mem _ hy)
theorem Lim.head {x : Int} {xs : List Int} (h : Lim (x :: xs)) : 0 ≤ x ∧ x < 4294967296 := h x List.mem_cons_self
theorem Lim.cons {x : Int} {xs : List Int} (h0 : 0 ≤ x) (h1 : x < 4294967296) (h : Lim xs) : Lim (x :: xs) := by
  intro y hy
  rcases List.mem_cons.1 hy with rfl | hy
  · exact ⟨h0, h1⟩
  · exact h y hy
theorem Lim.append {xs ys : List Int} (h : Lim xs) (k : Lim ys) : Lim (xs ++ ys) := fun z hz => by
  rcases List.mem_append.1 hz with hz | hz
  · exact h z hz
  · exact k z hz
theorem Lim.left {xs ys : List Int} (h : Lim (xs ++ ys)) : Lim xs := fun z hz => h z (List.mem_append_left _ hz)
theorem Lim.right {xs ys : List Int} (h : Lim (xs ++ ys)) : Lim ys := fun z hz => h z (List.mem_append_right _ hz)
theorem Lim.take {xs : List Int} (h : Lim xs) (k : Nat) : Lim (xs.take k) := fun z hz => h z (List.mem_of_mem_take hz)
theorem Lim.drop {xs : List Int} (h : Lim xs) (k : Nat) : Lim (xs.drop k) := fun z hz => h z (List.mem_of_mem_drop hz)
theorem Lim.one {x : Int} (h0 : 0 ≤ x) (h1 : x < 4294967296) : Lim [x] := Lim.cons h0 h1 Lim.nil
theorem Lim.noughts (n : Nat) : Lim (List.replicate n 0) := fun z hz => by
  have := List.eq_of_mem_replicate hz
  omega
theorem Lim.at_ {xs : List Int} (h : Lim xs) (k : Nat) : 0 ≤ at_ xs k ∧ at_ xs k < 4294967296 := by
  unfold Mt.at_
  rw [List.getD_eq_getElem?_getD]
  cases e : xs[k]? with
  | none => simp
  | some x => exact h x (List.mem_of_getElem? e)
theorem Lim.set {xs : List Int} (h : Lim xs) (k : Nat) {x : Int} (h0 : 0 ≤ x) (h1 : x < 4294967296) : Lim (xs.set k x) := fun z hz => by
  rcases List.mem_or_eq_of_mem_set hz with hz | rfl
  · exact h z hz
  · exact ⟨h0, h1⟩

theorem val_nonneg {xs : List Int} (h : Lim xs) : 0 ≤ val xs := by
  induction xs with
  | nil => simp [val]
  | cons x xs ih =>
    have := ih h.tail
    have := h.head
    rw [val_cons]; omega
theorem val_lt {xs : List Int} (h : Lim xs) : val xs < B xs.length := by
  induction xs with
  | nil => simp [val, B]
  | cons x xs ih =>
    have := ih h.tail
    have := h.head
    rw [val_cons, List.length_cons, B_succ]; omega
theorem val_append (xs ys : List Int) : val (xs ++ ys) = val xs + B xs.length * val ys := by
  induction xs with
  | nil => simp [val, B]
  | cons x xs ih =>
    rw [List.cons_append, val_cons, val_cons, ih, List.length_cons, B_succ, Int.mul_add, Int.mul_assoc]; omega
theorem val_one (x : Int) : val [x] = x := by simp [val]
theorem val_snoc (xs : List Int) (x : Int) : val (xs ++ [x]) = val xs + B xs.length * x := by rw [val_append, val_one]
theorem val_noughts (n : Nat) : val (List.replicate n 0) = 0 := by
  induction n with
  | zero => rfl
  | succ n ih => rw [List.replicate_succ, val_cons, ih]; omega
theorem take_snoc {xs : List Int} {k : Nat} (h : k < xs.length) : xs.take (k + 1) = xs.take k ++ [at_ xs k] := by
  rw [List.take_succ_eq_append_getElem h]
  unfold at_
  rw [List.getD_eq_getElem?_getD, List.getElem?_eq_getElem h]; rfl
theorem len_take {xs : List Int} {k : Nat} (h : k ≤ xs.length) : (xs.take k).length = k := by rw [List.length_take]; omega
theorem val_take_succ {xs : List Int} {k : Nat} (h : k < xs.length) : val (xs.take (k + 1)) = val (xs.take k) + B k * at_ xs k := by
  rw [take_snoc h, val_snoc, len_take (by omega)]
theorem val_split (xs : List Int) {k : Nat} (h : k ≤ xs.length) : val xs = val (xs.take k) + B k * val (xs.drop k) := by
  conv => lhs; rw [← List.take_append_drop k xs, val_append, len_take h]
theorem val_drop {xs : List Int} {k : Nat} (h : k < xs.length) : val (xs.drop k) = at_ xs k + 4294967296 * val (xs.drop (k + 1)) := by
  rw [List.drop_eq_getElem_cons h, val_cons]
  unfold at_
  rw [List.getD_eq_getElem?_getD, List.getElem?_eq_getElem h]; rfl
theorem val_set {xs : List Int} {k : Nat} (x : Int) (h : k < xs.length) : val (xs.set k x) = val xs + B k * (x - at_ xs k) := by
  induction xs generalizing k with
  | nil => simp at h
  | cons y ys ih =>
    cases k with
    | zero => simp [val, B, at_]; omega
    | succ k =>
      have := ih (k := k) (by simpa using h)
      rw [List.set_cons_succ, val_cons, val_cons, this, B_succ]
      have e : at_ (y :: ys) (k + 1) = at_ ys k := rfl
      rw [e, Int.mul_add, Int.mul_assoc]; omega
theorem take_set {xs : List Int} {k : Nat} (x : Int) (h : k < xs.length) : (xs.set k x).take (k + 1) = xs.take k ++ [x] := by
  rw [List.take_succ_eq_append_getElem (by simpa using h), List.take_set_of_le (Nat.le_refl k)]
  simp
theorem at_set {xs : List Int} {k : Nat} (x : Int) (h : k < xs.length) : at_ (xs.set k x) k = x := by
  unfold at_
  rw [List.getD_eq_getElem?_getD, List.getElem?_set_self h]; rfl
theorem at_set_ne {xs : List Int} {j k : Nat} (x : Int) (h : j ≠ k) : at_ (xs.set j x) k = at_ xs k := by
  unfold at_
  rw [List.getD_eq_getElem?_getD, List.getD_eq_getElem?_getD, List.getElem?_set_ne h]
theorem at_ge {xs : List Int} {k : Nat} (h : xs.length ≤ k) : at_ xs k = 0 := by
  unfold at_
  rw [List.getD_eq_getElem?_getD, List.getElem?_eq_none h]; rfl

/-! ### one form -/
/-- How many limbs stay when noughts at the end (of the first n) go. -/
def tl (xs : List Int) : Nat → Nat
  | 0 => 0
  | n + 1 => if at_ xs n = 0 then tl xs n else n + 1
theorem tl_le (xs : List Int) (n : Nat) : tl xs n ≤ n := by
  induction n with
  | zero => exact Nat.le_refl _
  | succ n ih => unfold tl; split <;> omega
theorem tl_val {xs : List Int} {n : Nat} (h : n ≤ xs.length) : val (xs.take (tl xs n)) = val (xs.take n) := by
  induction n with
  | zero => rfl
  | succ n ih =>
    unfold tl
    split
    · rename_i e
      rw [ih (by omega), val_take_succ (by omega), e, Int.mul_zero, Int.add_zero]
    · rfl
theorem getLast?_take {xs : List Int} {n : Nat} (h : n + 1 ≤ xs.length) : (xs.take (n + 1)).getLast? = some (at_ xs n) := by
  rw [take_snoc (by omega), List.getLast?_append]; simp
theorem tl_can {xs : List Int} {n : Nat} (h : n ≤ xs.length) : Can (xs.take (tl xs n)) := by
  induction n with
  | zero => simp [tl, Can]
  | succ n ih =>
    unfold tl
    split
    · exact ih (by omega)
    · rename_i e
      unfold Can
      rw [getLast?_take h]
      simpa using e
theorem tl_of_can {xs : List Int} (h : Can xs) : tl xs xs.length = xs.length := by
  cases e : xs.length with
  | zero => rfl
  | succ n =>
    unfold tl
    rw [if_neg]
    intro e0
    have := getLast?_take (xs := xs) (n := n) (by omega)
    rw [← e, List.take_length, e0] at this
    exact h this

theorem can_tail {x : Int} {xs : List Int} (h : Can (x :: xs)) : Can xs := by
  unfold Can at *
  cases xs with
  | nil => simp
  | cons y ys => rwa [List.getLast?_cons_cons] at h
theorem can_pos {xs : List Int} (hl : Lim xs) (h : Can xs) (hn : xs ≠ []) : 0 < val xs := by
  induction xs with
  | nil => exact absurd rfl hn
  | cons x xs ih =>
    have h0 := hl.head
    have h1 := val_nonneg hl.tail
    rw [val_cons]
    cases xs with
    | nil =>
      have : x ≠ 0 := by simpa [Can] using h
      simp [val]; omega
    | cons y ys =>
      have := ih hl.tail (can_tail h) (by simp)
      omega
theorem can_unique {xs ys : List Int} (hx : Lim xs) (hy : Lim ys) (cx : Can xs) (cy : Can ys) (h : val xs = val ys) : xs = ys := by
  induction xs generalizing ys with
  | nil =>
    cases ys with
    | nil => rfl
    | cons y ys => have := can_pos hy cy (by simp); rw [← h] at this; simp [val] at this
  | cons x xs ih =>
    cases ys with
    | nil => have := can_pos hx cx (by simp); rw [h] at this; simp [val] at this
    | cons y ys =>
      rw [val_cons, val_cons] at h
      have h1 := hx.head
      have h2 := hy.head
      have e : x = y := by omega
      subst e
      rw [ih hx.tail hy.tail (can_tail cx) (can_tail cy) (by omega)]
/-- A list in one form with top limb: at least so great. -/
theorem can_ge {xs : List Int} (hl : Lim xs) (h : Can xs) (hn : xs ≠ []) : B (xs.length - 1) ≤ val xs := by
  obtain ⟨n, hlen⟩ : ∃ n, xs.length = n + 1 := ⟨xs.length - 1, by have := List.length_pos_iff.2 hn; omega⟩
  have h1 := val_split xs (k := n) (by omega)
  have h2 := val_drop (xs := xs) (k := n) (by omega)
  rw [List.drop_of_length_le (i := n + 1) (by omega), val_nil, Int.mul_zero, Int.add_zero] at h2
  have h3 := val_nonneg (hl.take n)
  have h4 := hl.at_ n
  have h5 := getLast?_take (xs := xs) (n := n) (by omega)
  rw [← hlen, List.take_length] at h5
  have h6 : at_ xs n ≠ 0 := fun e => h (by rw [h5, e])
  rw [h1, h2, hlen]
  have h7 : B n * 1 ≤ B n * at_ xs n := Int.mul_le_mul_of_nonneg_left (by omega) (by have := B_pos n; omega)
  simp only [Nat.add_sub_cancel]
  omega
theorem can_len_le {xs : List Int} (hl : Lim xs) (h : Can xs) {n : Nat} (hv : val xs < B n) : xs.length ≤ n := by
  rcases Nat.lt_or_ge n xs.length with hlt | hge
  · have h1 := can_ge hl h (by intro e; subst e; simp at hlt)
    have h2 := B_mono (show n ≤ xs.length - 1 by omega)
    omega
  · exact hge

/-- The limbs of a number. -/
def dig (n : Nat) : List Int := if h : n = 0 then [] else (n % 4294967296 : Nat) :: dig (n / 4294967296)
termination_by n
decreasing_by omega
theorem dig_zero : dig 0 = [] := by unfold dig; rfl
theorem dig_pos {n : Nat} (h : n ≠ 0) : dig n = ((n % 4294967296 : Nat) : Int) :: dig (n / 4294967296) := by
  rw [dig, dif_neg h]
theorem dig_val (n : Nat) : val (dig n) = n := by
  induction n using Nat.strongRecOn with
  | ind n ih =>
    by_cases h : n = 0
    · subst h; rw [dig_zero]; rfl
    · rw [dig_pos h, val_cons, ih _ (by omega)]; omega
theorem dig_lim (n : Nat) : Lim (dig n) := by
  induction n using Nat.strongRecOn with
  | ind n ih =>
    by_cases h : n = 0
    · subst h; rw [dig_zero]; exact Lim.nil
    · rw [dig_pos h]; exact Lim.cons (by omega) (by omega) (ih _ (by omega))
theorem dig_can (n : Nat) : Can (dig n) := by
  induction n using Nat.strongRecOn with
  | ind n ih =>
    by_cases h : n = 0
    · subst h; rw [dig_zero]; simp [Can]
    · rw [dig_pos h]
      by_cases h2 : n / 4294967296 = 0
      · rw [h2, dig_zero]; simp [Can]; omega
      · have := ih (n / 4294967296) (by omega)
        rw [dig_pos h2] at this ⊢
        unfold Can at *
        rwa [List.getLast?_cons_cons]
theorem dig_of {xs : List Int} (hl : Lim xs) (hc : Can xs) {n : Nat} (h : val xs = n) : xs = dig n :=
  can_unique hl (dig_lim n) hc (dig_can n) (by rw [h, dig_val])
/-- How many limbs a number has. -/
def lim (n : Nat) : Nat := (dig n).length
theorem lim_le {n k : Nat} (h : (n : Int) < B k) : lim n ≤ k := can_len_le (dig_lim n) (dig_can n) (by rwa [dig_val])
theorem lt_B_lim (n : Nat) : (n : Int) < B (lim n) := by
  have := val_lt (dig_lim n)
  rwa [dig_val] at this
theorem lim_mono {m n : Nat} (h : m ≤ n) : lim m ≤ lim n := lim_le (by have := lt_B_lim n; omega)
theorem lim_zero : lim 0 = 0 := by unfold lim; rw [dig_zero]; rfl
theorem lim_mul (m n : Nat) : lim (m * n) ≤ lim m + lim n := by
  apply lim_le
  rw [B_add, Int.natCast_mul]
  have h1 := lt_B_lim m
  have h2 := lt_B_lim n
  calc (m : Int) * n ≤ m * B (lim n) := Int.mul_le_mul_of_nonneg_left (by omega) (by omega)
    _ < B (lim m) * B (lim n) := Int.mul_lt_mul_of_pos_right h1 (B_pos _)
theorem lim_add {m n k : Nat} (hm : lim m ≤ k) (hn : lim n ≤ k) : lim (m + n) ≤ k + 1 := by
  apply lim_le
  have h1 := lt_B_lim m
  have h2 := lt_B_lim n
  have h3 := B_mono hm
  have h4 := B_mono hn
  have h5 := B_pos k
  rw [B_succ]
  omega

/-! ### order -/
theorem val_lt_of {xs ys : List Int} {j : Nat} (hx : Lim xs) (hy : Lim ys) (hl : xs.length = ys.length) (hj : j < xs.length) (hd : xs.drop (j + 1) = ys.drop (j + 1)) (h : at_ xs j < at_ ys j) : val xs < val ys := by
  rw [val_split xs (k := j) (by omega), val_split ys (k := j) (by omega), val_drop hj, val_drop (xs := ys) (by omega), hd]
  have h1 := val_lt (hx.take j)
  have h2 := val_nonneg (hy.take j)
  rw [len_take (by omega)] at h1
  have h3 := B_pos j
  have h4 : B j * (at_ xs j + 4294967296 * val (ys.drop (j + 1)) + 1) ≤ B j * (at_ ys j + 4294967296 * val (ys.drop (j + 1))) := Int.mul_le_mul_of_nonneg_left (by omega) (by omega)
  rw [Int.mul_add _ _ 1, Int.mul_one] at h4
  omega
theorem lim_lt {m n : Nat} (h : lim m < lim n) : m < n := by
  rcases Nat.lt_or_ge m n with h1 | h1
  · exact h1
  · have := lim_mono h1; omega
theorem drop_step {xs ys : List Int} {j : Nat} (hl : xs.length = ys.length) (hj : j < xs.length) (hd : xs.drop (j + 1) = ys.drop (j + 1)) (h : at_ xs j = at_ ys j) : xs.drop j = ys.drop j := by
  have hj' : j < ys.length := by omega
  rw [List.drop_eq_getElem_cons hj, List.drop_eq_getElem_cons hj', hd]
  unfold at_ at h
  rw [List.getD_eq_getElem?_getD, List.getD_eq_getElem?_getD, List.getElem?_eq_getElem hj, List.getElem?_eq_getElem hj'] at h
  rw [show xs[j] = ys[j] from h]
theorem dig_drop {m n j : Nat} (hl : lim m = lim n) (hj : j < lim m) (hd : (dig m).drop (j + 1) = (dig n).drop (j + 1)) (h : at_ (dig m) j = at_ (dig n) j) : (dig m).drop j = (dig n).drop j := drop_step hl hj hd h
/-- -1, 0, 1. -/
def sgnc (x y : Int) : Int := if x < y then -1 else if y < x then 1 else 0
theorem sgnc_lt {x y : Int} (h : x < y) : sgnc x y = -1 := if_pos h
theorem sgnc_gt {x y : Int} (h : y < x) : sgnc x y = 1 := by unfold sgnc; rw [if_neg (by omega), if_pos h]
theorem sgnc_eq {x y : Int} (h : x = y) : sgnc x y = 0 := by unfold sgnc; rw [if_neg (by omega), if_neg (by omega)]
theorem dig_cmp_lt {m n : Nat} {j : Nat} (hl : lim m = lim n) (hj : j < lim m) (hd : (dig m).drop (j + 1) = (dig n).drop (j + 1)) (h : at_ (dig m) j < at_ (dig n) j) : m < n := by
  have := val_lt_of (dig_lim m) (dig_lim n) hl hj hd h
  rw [dig_val, dig_val] at this
  omega

/-! ### binary digits -/
/-- How many binary digits. -/
def nbits (n : Nat) : Nat := if n = 0 then 0 else Nat.log2 n + 1
theorem nbits_zero : nbits 0 = 0 := rfl
theorem nbits_le {n k : Nat} (h : n < 2 ^ k) : nbits n ≤ k := by
  unfold nbits
  split
  · omega
  · rename_i h0
    exact (Nat.log2_lt h0).2 h
theorem lt_nbits (n : Nat) : n < 2 ^ nbits n := by
  unfold nbits
  split
  · rename_i h; subst h; simp
  · exact Nat.lt_log2_self
theorem nbits_ge {n k : Nat} (h : 2 ^ k ≤ n) : k + 1 ≤ nbits n := by
  have h1 := lt_nbits n
  have h2 : 2 ^ k < 2 ^ nbits n := by omega
  exact (Nat.pow_lt_pow_iff_right (by omega)).1 h2
theorem nbits_eq {n k : Nat} (h0 : 2 ^ k ≤ n) (h1 : n < 2 ^ (k + 1)) : nbits n = k + 1 := by
  have := nbits_ge h0
  have := nbits_le h1
  omega
theorem pow_le_nbits {n : Nat} (h : n ≠ 0) : 2 ^ (nbits n - 1) ≤ n := by
  unfold nbits
  rw [if_neg h, Nat.add_sub_cancel]
  exact Nat.log2_self_le h
theorem B_two (k : Nat) : B k = ((2 ^ (32 * k) : Nat) : Int) := by
  unfold B
  rw [Nat.pow_mul]
  simp
theorem nbits_top {n k : Nat} (hk : lim n = k + 1) : nbits n = 32 * k + nbits (at_ (dig n) k).toNat ∧ at_ (dig n) k ≠ 0 := by
  have hlen : (dig n).length = k + 1 := hk
  have h1 := val_split (dig n) (k := k) (by omega)
  have h2 := val_drop (xs := dig n) (k := k) (by omega)
  rw [List.drop_of_length_le (i := k + 1) (by omega), val_nil, Int.mul_zero, Int.add_zero] at h2
  have h3 := val_nonneg ((dig_lim n).take k)
  have h3' := val_lt ((dig_lim n).take k)
  rw [len_take (by omega)] at h3'
  have h4 := (dig_lim n).at_ k
  have h5 := getLast?_take (xs := dig n) (n := k) (by omega)
  rw [← hlen, List.take_length] at h5
  have h6 : at_ (dig n) k ≠ 0 := fun e => dig_can n (by rw [h5, e])
  refine ⟨?_, h6⟩
  rw [dig_val, h2] at h1
  obtain ⟨t, ht⟩ : ∃ t : Nat, at_ (dig n) k = t := ⟨(at_ (dig n) k).toNat, by omega⟩
  rw [ht] at h1 h4 h6 ⊢
  have ht0 : t ≠ 0 := by omega
  have hb1 := pow_le_nbits ht0
  have hb2 := lt_nbits t
  have hb3 : 1 ≤ nbits t := by unfold nbits; rw [if_neg ht0]; omega
  rw [B_two] at h1 h3'
  obtain ⟨v, hv⟩ : ∃ v : Nat, val ((dig n).take k) = v := ⟨(val ((dig n).take k)).toNat, by omega⟩
  rw [hv] at h1 h3'
  have hn : n = v + 2 ^ (32 * k) * t := by
    have : (n : Int) = ((v + 2 ^ (32 * k) * t : Nat) : Int) := by rw [h1]; simp
    omega
  have hvlt : v < 2 ^ (32 * k) := by omega
  obtain ⟨m, hm⟩ : ∃ m, nbits t = m + 1 := ⟨nbits t - 1, by omega⟩
  rw [Int.toNat_natCast, hm, show 32 * k + (m + 1) = (32 * k + m) + 1 from by omega]
  rw [hm] at hb1 hb2
  rw [Nat.add_sub_cancel] at hb1
  refine nbits_eq ?_ ?_
  · rw [Nat.pow_add]
    calc 2 ^ (32 * k) * 2 ^ m ≤ 2 ^ (32 * k) * t := Nat.mul_le_mul_left _ hb1
      _ ≤ n := by omega
  · rw [show 32 * k + m + 1 = 32 * k + (m + 1) from by omega, Nat.pow_add]
    calc n < 2 ^ (32 * k) * (t + 1) := by rw [Nat.mul_add, Nat.mul_one]; omega
      _ ≤ 2 ^ (32 * k) * 2 ^ (m + 1) := Nat.mul_le_mul_left _ (by omega)

/-! ### one limb divides -/
theorem drop_set {xs : List Int} {k : Nat} (x : Int) (h : k < xs.length) : (xs.set k x).drop k = x :: xs.drop (k + 1) := by
  rw [List.drop_eq_getElem_cons (by simpa using h), List.getElem_set_self, List.drop_set, if_pos (by omega)]
def shortI (d : Int) (xs zs : List Int) (k : Nat) (r : Int) : Prop := 0 ≤ r ∧ r < d ∧ zs.length = xs.length ∧ Lim zs ∧ val (xs.drop k) = d * val (zs.drop k) + r
theorem shortI.lim {d : Int} {xs zs : List Int} {k : Nat} {r : Int} (h : shortI d xs zs k r) : Lim zs := h.2.2.2.1
theorem shortI.len {d : Int} {xs zs : List Int} {k : Nat} {r : Int} (h : shortI d xs zs k r) : zs.length = xs.length := h.2.2.1
theorem shortI.bd {d : Int} {xs zs : List Int} {k : Nat} {r : Int} (h : shortI d xs zs k r) : 0 ≤ r ∧ r < d := ⟨h.1, h.2.1⟩
theorem shortI_start {d : Int} (xs : List Int) (hd : 0 < d) : shortI d xs (List.replicate xs.length 0) xs.length 0 := ⟨by omega, hd, by simp, Lim.noughts _, by simp [val]⟩
theorem shortI_bound {d r x : Int} (h0 : 0 ≤ r) (h1 : r < d) (hx0 : 0 ≤ x) (hx1 : x < 4294967296) : 0 ≤ (r * 4294967296 + x) / d ∧ (r * 4294967296 + x) / d < 4294967296 := by
  refine ⟨Int.ediv_nonneg (by omega) (by omega), Int.ediv_lt_of_lt_mul (by omega) ?_⟩
  have : (r + 1) * 4294967296 ≤ d * 4294967296 := Int.mul_le_mul_of_nonneg_right (by omega) (by omega)
  rw [Int.mul_comm 4294967296]
  omega
theorem shortI_step {d : Int} {xs zs : List Int} {k : Nat} {r : Int} (h : shortI d xs zs (k + 1) r) (hk : k < xs.length) (hx : Lim xs) (v : Int) (hv : v = r * 4294967296 + at_ xs k) :
    shortI d xs (zs.set k (v / d)) k (v % d) := by
  obtain ⟨h0, h1, h2, h3, h4⟩ := h
  have bx := hx.at_ k
  have hb := shortI_bound h0 h1 bx.1 bx.2
  rw [← hv] at hb
  refine ⟨Int.emod_nonneg _ (by omega), Int.emod_lt_of_pos _ (by omega), by simpa using h2, h3.set _ hb.1 hb.2, ?_⟩
  rw [val_drop hk, drop_set _ (by omega), val_cons, h4, Int.mul_add d (v / d)]
  have e := Int.mul_ediv_add_emod v d
  have e2 : d * (4294967296 * val (zs.drop (k + 1))) = 4294967296 * (d * val (zs.drop (k + 1))) := by rw [← Int.mul_assoc, ← Int.mul_assoc, Int.mul_comm d]
  omega
theorem shortI_end {d : Int} {xs zs : List Int} {r : Int} (h : shortI d xs zs 0 r) (hd : 0 < d) : val zs = val xs / d ∧ r = val xs % d := by
  obtain ⟨h0, h1, h2, h3, h4⟩ := h
  rw [List.drop_zero, List.drop_zero] at h4
  refine ⟨?_, ?_⟩
  · rw [h4, Int.mul_comm, Int.add_comm, Int.add_mul_ediv_right _ _ (by omega), Int.ediv_eq_zero_of_lt h0 h1, Int.zero_add]
  · rw [h4, Int.add_comm, Int.add_mul_emod_self_left, Int.emod_eq_of_lt h0 h1]

/-! ### shifts -/
theorem pow_split {r : Nat} (h : r ≤ 32) : (2 : Int) ^ r * 2 ^ (32 - r) = 4294967296 := by
  rw [← Int.pow_add, show r + (32 - r) = 32 from by omega]; rfl
theorem pow2_pos (r : Nat) : (0 : Int) < 2 ^ r := Int.pow_pos (by omega)
theorem pow2_le {r : Nat} (h : r < 32) : (2 : Int) ^ r ≤ 2147483648 := by
  have e := pow_split (show r ≤ 32 by omega)
  have h1 := pow2_pos r
  obtain ⟨d, hd⟩ : ∃ d, 32 - r = d + 1 := ⟨31 - r, by omega⟩
  rw [hd, Int.pow_succ] at e
  have h2 := pow2_pos d
  have h3 : (2 : Int) ^ r * 1 ≤ 2 ^ r * 2 ^ d := Int.mul_le_mul_of_nonneg_left (by omega) (by omega)
  rw [← Int.mul_assoc] at e
  omega
/-- A limb shifted: what stays below, what goes over. -/
theorem shl_limb {x : Int} {r : Nat} (hr : r < 32) (h0 : 0 ≤ x) (h1 : x < 4294967296) :
    0 ≤ x * 2 ^ r ∧ x * 2 ^ r < 9223372036854775808 ∧ (x * 2 ^ r % 4294967296) % 2 ^ r = 0 ∧ x * 2 ^ r % 4294967296 + 2 ^ r ≤ 4294967296 ∧ x * 2 ^ r / 4294967296 < 2 ^ r := by
  have hP := pow2_pos r
  have hP2 := pow2_le hr
  have hR := pow2_pos (32 - r)
  have e := pow_split (show r ≤ 32 by omega)
  have e1 : x * 2 ^ r % 4294967296 = 2 ^ r * (x % 2 ^ (32 - r)) := by rw [← e, Int.mul_comm x, Int.mul_emod_mul_of_pos _ _ hP]
  have e2 : x * 2 ^ r / 4294967296 = x / 2 ^ (32 - r) := by rw [← e, Int.mul_comm x, Int.mul_ediv_mul_of_pos _ _ hP]
  have h2 : x * 2 ^ r ≤ 4294967295 * 2147483648 := Int.mul_le_mul (by omega) hP2 (by omega) (by omega)
  have h3 := Int.emod_lt_of_pos x hR
  have h4 := Int.emod_nonneg x (show (2 : Int) ^ (32 - r) ≠ 0 by omega)
  refine ⟨Int.mul_nonneg h0 (by omega), by omega, ?_, ?_, ?_⟩
  · rw [e1]; exact Int.mul_emod_right _ _
  · rw [e1]
    have : (2 : Int) ^ r * (x % 2 ^ (32 - r) + 1) ≤ 2 ^ r * 2 ^ (32 - r) := Int.mul_le_mul_of_nonneg_left (by omega) (by omega)
    rw [e, Int.mul_add, Int.mul_one] at this
    exact this
  · rw [e2]
    exact Int.ediv_lt_of_lt_mul hR (by rw [e]; exact h1)
def shlI (xs zs : List Int) (n q : Nat) (P : Int) (k : Nat) : Prop := zs.length = n ∧ Lim zs ∧ val zs = B q * (P * val (xs.take k)) ∧ at_ zs (k + q) < P ∧ ∀ j, k + q < j → at_ zs j = 0
theorem shlI.lim {xs zs : List Int} {n q : Nat} {P : Int} {k : Nat} (h : shlI xs zs n q P k) : Lim zs := h.2.1
theorem shlI.top {xs zs : List Int} {n q : Nat} {P : Int} {k : Nat} (h : shlI xs zs n q P k) : 0 ≤ at_ zs (k + q) ∧ at_ zs (k + q) < P := ⟨(h.2.1.at_ _).1, h.2.2.2.1⟩
theorem at_noughts (n k : Nat) : at_ (List.replicate n 0) k = 0 := by
  unfold at_; rw [List.getD_eq_getElem?_getD, List.getElem?_replicate]; split <;> rfl
theorem shlI_start (xs : List Int) (n q : Nat) {P : Int} (hP : 0 < P) : shlI xs (List.replicate n 0) n q P 0 :=
  ⟨by simp, Lim.noughts _, by rw [val_noughts]; simp [val], by rw [at_noughts]; exact hP, fun j _ => at_noughts n j⟩
theorem shlI_step {xs zs : List Int} {n q r : Nat} {k : Nat} (h : shlI xs zs n q (2 ^ r) k) (hr : r < 32) (hk : k < xs.length) (hn : k + q + 1 < n) (hx : Lim xs) :
    shlI xs ((zs.set (k + q) (at_ zs (k + q) + at_ xs k * 2 ^ r % 4294967296)).set (k + q + 1) (at_ xs k * 2 ^ r / 4294967296)) n q (2 ^ r) (k + 1) := by
  obtain ⟨h1, h2, h3, h4, h5⟩ := h
  have bx := hx.at_ k
  have bz := h2.at_ (k + q)
  obtain ⟨l1, l2, l3, l4, l5⟩ := shl_limb hr bx.1 bx.2
  have hP := pow2_pos r
  have hP2 := pow2_le hr
  refine ⟨by simpa using h1, (h2.set _ (by omega) (by omega)).set _ (by omega) (by omega), ?_, ?_, ?_⟩
  · rw [val_set _ (by simp; omega), at_set_ne _ (by omega), h5 (k + q + 1) (by omega), val_set _ (by omega), h3, val_take_succ hk, B_succ, B_add, Int.sub_zero]
    have e : at_ zs (k + q) + at_ xs k * 2 ^ r % 4294967296 - at_ zs (k + q) = at_ xs k * 2 ^ r - 4294967296 * (at_ xs k * 2 ^ r / 4294967296) := by omega
    rw [e]
    generalize at_ xs k * 2 ^ r / 4294967296 = g
    grind
  · rw [show k + 1 + q = k + q + 1 from by omega, at_set _ (by simp; omega)]; exact l5
  · intro j hj
    rw [at_set_ne _ (by omega), at_set_ne _ (by omega)]
    exact h5 j (by omega)
theorem shlI_end {xs zs : List Int} {n q : Nat} {P : Int} (h : shlI xs zs n q P xs.length) : val zs = B q * (P * val xs) := by
  have := h.2.2.1
  rwa [List.take_length] at this
theorem B_pow (q r : Nat) (N : Nat) : B q * (2 ^ r * (N : Int)) = ((N * 2 ^ (32 * q + r) : Nat) : Int) := by
  rw [B_two, Nat.pow_add]
  simp
  grind

theorem emod_two (y : Int) {a b : Int} (ha : 0 < a) (hb : 0 < b) : y % (a * b) = y % a + a * (y / a % b) := by
  have h1 := Int.mul_ediv_add_emod y a
  have h2 := Int.mul_ediv_add_emod (y / a) b
  have h3 := Int.emod_nonneg y (show a ≠ 0 by omega)
  have h4 := Int.emod_lt_of_pos y ha
  have h5 := Int.emod_nonneg (y / a) (show b ≠ 0 by omega)
  have h6 := Int.emod_lt_of_pos (y / a) hb
  have e : y = (y % a + a * (y / a % b)) + (a * b) * (y / a / b) := by
    conv => lhs; rw [← h1, ← h2]
    grind
  conv => lhs; rw [e]
  rw [Int.add_mul_emod_self_left]
  refine Int.emod_eq_of_lt (by have := Int.mul_nonneg (show 0 ≤ a by omega) h5; omega) ?_
  have : a * (y / a % b + 1) ≤ a * b := Int.mul_le_mul_of_nonneg_left (by omega) (by omega)
  rw [Int.mul_add, Int.mul_one] at this
  omega
theorem val_drop_div {xs : List Int} (hl : Lim xs) {k : Nat} (h : k ≤ xs.length) : val (xs.drop k) = val xs / B k := by
  have h1 := val_split xs h
  have h2 := val_lt (hl.take k)
  have h3 := val_nonneg (hl.take k)
  rw [len_take h] at h2
  rw [h1, Int.mul_comm, Int.add_mul_ediv_right _ _ (by have := B_pos k; omega), Int.ediv_eq_zero_of_lt h3 h2, Int.zero_add]
def shrI (xs zs : List Int) (n q r k : Nat) : Prop := zs.length = n ∧ Lim zs ∧ val (zs.take k) = val (xs.drop q) / 2 ^ r % B k
theorem shrI.lim {xs zs : List Int} {n q r k : Nat} (h : shrI xs zs n q r k) : Lim zs := h.2.1
theorem shrI_start (xs : List Int) (n q r : Nat) : shrI xs (List.replicate n 0) n q r 0 := ⟨by simp, Lim.noughts _, by rw [B_zero, Int.emod_one]; rfl⟩
theorem shr_two {x y t : Int} {r : Nat} (hr : r < 32) : (x + 4294967296 * (y + 4294967296 * t)) / 2 ^ r % 4294967296 = (x + y * 4294967296) / 2 ^ r % 4294967296 := by
  have hP := pow2_pos r
  have e := pow_split (show r ≤ 32 by omega)
  have e1 : x + 4294967296 * (y + 4294967296 * t) = (x + y * 4294967296) + (4294967296 * (2 ^ (32 - r) * t)) * 2 ^ r := by rw [← e]; grind
  rw [e1, Int.add_mul_ediv_right _ _ (by omega), Int.add_mul_emod_self_left]
theorem shrI_step {xs zs : List Int} {n q r k : Nat} (h : shrI xs zs n q r k) (hr : r < 32) (hk : k + q < xs.length) (hn : k < n) (hx : Lim xs) :
    shrI xs (zs.set k ((at_ xs (k + q) + at_ xs (k + q + 1) * 4294967296) / 2 ^ r % 4294967296)) n q r (k + 1) := by
  obtain ⟨h1, h2, h3⟩ := h
  have hP := pow2_pos r
  refine ⟨by simpa using h1, h2.set _ (by omega) (by omega), ?_⟩
  rw [take_set _ (by omega), val_snoc, len_take (by omega), h3, B_succ, Int.mul_comm 4294967296, emod_two _ (B_pos k) (by omega)]
  have e : val (xs.drop q) / 2 ^ r / B k % 4294967296 = (at_ xs (k + q) + at_ xs (k + q + 1) * 4294967296) / 2 ^ r % 4294967296 := by
    rw [Int.ediv_ediv_of_nonneg (by omega), Int.mul_comm, ← Int.ediv_ediv_of_nonneg (by have := B_pos k; omega), ← val_drop_div (hx.drop q) (by rw [List.length_drop]; omega), List.drop_drop, show q + k = k + q from by omega, val_drop hk]
    rcases Nat.lt_or_ge (k + q + 1) xs.length with h4 | h4
    · rw [val_drop h4, shr_two hr]
    · rw [List.drop_of_length_le h4, at_ge h4]
      simp [val]
  rw [e]
theorem shrI_end {xs zs : List Int} {n q r : Nat} (h : shrI xs zs n q r n) (hn : xs.length = n + q) (hx : Lim xs) : val zs = val xs / 2 ^ (32 * q + r) := by
  obtain ⟨h1, h2, h3⟩ := h
  rw [← h1, List.take_length, h1] at h3
  have hP := pow2_pos r
  have h4 := val_lt (hx.drop q)
  have h5 := val_nonneg (hx.drop q)
  rw [List.length_drop, hn, Nat.add_sub_cancel] at h4
  have h6 : val (xs.drop q) / 2 ^ r ≤ val (xs.drop q) := Int.ediv_le_self _ h5
  have h7 : 0 ≤ val (xs.drop q) / 2 ^ r := Int.ediv_nonneg h5 (by omega)
  rw [h3, Int.emod_eq_of_lt h7 (by omega), val_drop_div hx (by omega), Int.ediv_ediv_of_nonneg (by have := B_pos q; omega), B_two, Int.pow_add]
  simp
theorem shr_zero {N q r : Nat} (h : lim N ≤ q) : N / 2 ^ (32 * q + r) = 0 := by
  have h1 := lt_B_lim N
  have h2 := B_mono h
  rw [B_two q] at h2
  apply Nat.div_eq_of_lt
  calc N < 2 ^ (32 * q) := by omega
    _ ≤ 2 ^ (32 * q + r) := Nat.pow_le_pow_right (by omega) (by omega)

/-! ### a digit of a quotient -/
/-- q times v is being taken away: i limbs are done. -/
def subI (us0 vs us : List Int) (q : Int) (n i : Nat) (cy bw : Int) : Prop :=
  us.length = n ∧ Lim us ∧ (0 ≤ bw ∧ bw ≤ 1) ∧ (0 ≤ cy ∧ cy < 4294967296) ∧ (∀ k, i ≤ k → at_ us k = at_ us0 k) ∧ val (us.take i) - B i * bw = val (us0.take i) - q * val (vs.take i) + B i * cy
theorem subI.len {us0 vs us : List Int} {q : Int} {n i : Nat} {cy bw : Int} (h : subI us0 vs us q n i cy bw) : us.length = n := h.1
theorem subI.lim {us0 vs us : List Int} {q : Int} {n i : Nat} {cy bw : Int} (h : subI us0 vs us q n i cy bw) : Lim us := h.2.1
theorem subI.bw {us0 vs us : List Int} {q : Int} {n i : Nat} {cy bw : Int} (h : subI us0 vs us q n i cy bw) : 0 ≤ bw ∧ bw ≤ 1 := h.2.2.1
theorem subI.cy {us0 vs us : List Int} {q : Int} {n i : Nat} {cy bw : Int} (h : subI us0 vs us q n i cy bw) : 0 ≤ cy ∧ cy < 4294967296 := h.2.2.2.1
theorem subI.at_ {us0 vs us : List Int} {q : Int} {n i : Nat} {cy bw : Int} (h : subI us0 vs us q n i cy bw) : Mt.at_ us i = Mt.at_ us0 i := h.2.2.2.2.1 i (Nat.le_refl _)
theorem subI_start {us0 vs : List Int} {q : Int} {n : Nat} (hn : us0.length = n) (hl : Lim us0) : subI us0 vs us0 q n 0 0 0 :=
  ⟨hn, hl, by omega, by omega, fun _ _ => rfl, by simp [val]⟩
theorem subI_step {us0 vs us : List Int} {q : Int} {n i : Nat} {cy bw y : Int} (h : subI us0 vs us q n i cy bw) (hi : i < n) (h0 : us0.length = n) (hq0 : 0 ≤ q) (hq1 : q < 4294967296) (hy0 : 0 ≤ y) (hy1 : y < 4294967296)
    (hy : val (vs.take (i + 1)) = val (vs.take i) + B i * y) (p : Int) (hp : p = cy + q * y) (d : Int) (hd : d = (Mt.at_ us0 i - p % 4294967296 - bw) % 18446744073709551616) :
    subI us0 vs (us.set i (d % 4294967296)) q n (i + 1) (p / 4294967296) (d / 9223372036854775808) := by
  obtain ⟨h1, h2, h3, h4, h5, h6⟩ := h
  have bu : 0 ≤ Mt.at_ us0 i ∧ Mt.at_ us0 i < 4294967296 := by rw [← h5 i (Nat.le_refl _)]; exact h2.at_ i
  have hm1 : 0 ≤ q * y := Int.mul_nonneg hq0 hy0
  have hm2 : q * y ≤ 4294967295 * 4294967295 := Int.mul_le_mul (by omega) (by omega) hy0 (by omega)
  refine ⟨by simpa using h1, h2.set _ (by omega) (by omega), by omega, by omega, fun k hk => by rw [at_set_ne _ (by omega)]; exact h5 k (by omega), ?_⟩
  rw [take_set _ (by omega), val_snoc, len_take (by omega), val_take_succ (by omega), hy, B_succ]
  have e1 : d % 4294967296 - 4294967296 * (d / 9223372036854775808) = Mt.at_ us0 i - p % 4294967296 - bw := by omega
  have e2 : p % 4294967296 = cy + q * y - 4294967296 * (p / 4294967296) := by omega
  rw [e2] at e1
  generalize d % 4294967296 = x1 at *
  generalize d / 9223372036854775808 = x2 at *
  generalize p / 4294967296 = x3 at *
  grind
theorem subI_end {us0 vs us : List Int} {q : Int} {n : Nat} {cy bw : Int} (h : subI us0 vs us q n n cy bw) (h0 : us0.length = n) (hv : vs.length ≤ n) (hc : cy = 0) : val us - B n * bw = val us0 - q * val vs := by
  obtain ⟨h1, h2, h3, h4, h5, h6⟩ := h
  rw [← h1, List.take_length, h1, ← h0, List.take_length, h0, List.take_of_length_le hv, hc] at h6
  omega
/-- v is being put back. -/
def putI (us0 vs us : List Int) (n i : Nat) (c : Int) : Prop :=
  us.length = n ∧ Lim us ∧ (0 ≤ c ∧ c ≤ 1) ∧ (∀ k, i ≤ k → at_ us k = at_ us0 k) ∧ val (us.take i) + B i * c = val (us0.take i) + val (vs.take i)
theorem putI.len {us0 vs us : List Int} {n i : Nat} {c : Int} (h : putI us0 vs us n i c) : us.length = n := h.1
theorem putI.lim {us0 vs us : List Int} {n i : Nat} {c : Int} (h : putI us0 vs us n i c) : Lim us := h.2.1
theorem putI.c {us0 vs us : List Int} {n i : Nat} {c : Int} (h : putI us0 vs us n i c) : 0 ≤ c ∧ c ≤ 1 := h.2.2.1
theorem putI.at_ {us0 vs us : List Int} {n i : Nat} {c : Int} (h : putI us0 vs us n i c) : Mt.at_ us i = Mt.at_ us0 i := h.2.2.2.1 i (Nat.le_refl _)
theorem putI_start {us0 vs : List Int} {n : Nat} (hn : us0.length = n) (hl : Lim us0) : putI us0 vs us0 n 0 0 := ⟨hn, hl, by omega, fun _ _ => rfl, by simp [val]⟩
theorem putI_step {us0 vs us : List Int} {n i : Nat} {c y : Int} (h : putI us0 vs us n i c) (hi : i < n) (h0 : us0.length = n) (hy0 : 0 ≤ y) (hy1 : y < 4294967296)
    (hy : val (vs.take (i + 1)) = val (vs.take i) + B i * y) (v : Int) (hv : v = c + Mt.at_ us0 i + y) :
    putI us0 vs (us.set i (v % 4294967296)) n (i + 1) (v / 4294967296) := by
  obtain ⟨h1, h2, h3, h4, h5⟩ := h
  have bu : 0 ≤ Mt.at_ us0 i ∧ Mt.at_ us0 i < 4294967296 := by rw [← h4 i (Nat.le_refl _)]; exact h2.at_ i
  refine ⟨by simpa using h1, h2.set _ (by omega) (by omega), by omega, fun k hk => by rw [at_set_ne _ (by omega)]; exact h4 k (by omega), ?_⟩
  rw [take_set _ (by omega), val_snoc, len_take (by omega), val_take_succ (by omega), hy, B_succ]
  have e1 : v % 4294967296 + 4294967296 * (v / 4294967296) = c + Mt.at_ us0 i + y := by omega
  generalize v % 4294967296 = x1 at *
  generalize v / 4294967296 = x2 at *
  grind
theorem putI_end {us0 vs us : List Int} {n : Nat} {c : Int} (h : putI us0 vs us n n c) (h0 : us0.length = n) (hv : vs.length ≤ n) : val us + B n * c = val us0 + val vs := by
  obtain ⟨h1, h2, h3, h4, h5⟩ := h
  rwa [← h1, List.take_length, h1, ← h0, List.take_length, h0, List.take_of_length_le hv] at h5
/-- The digit that is guessed is not too small; what is left is U - q V, but for a borrow. -/
def digI (us : List Int) (U V : Int) (n : Nat) (q bw : Int) : Prop := us.length = n ∧ Lim us ∧ (0 ≤ bw ∧ bw ≤ 1) ∧ (0 ≤ q ∧ q < 4294967296) ∧ U < (q + 1) * V ∧ val us - B n * bw = U - q * V
theorem digI.len {us : List Int} {U V : Int} {n : Nat} {q bw : Int} (h : digI us U V n q bw) : us.length = n := h.1
theorem digI.lim {us : List Int} {U V : Int} {n : Nat} {q bw : Int} (h : digI us U V n q bw) : Lim us := h.2.1
theorem digI.bw {us : List Int} {U V : Int} {n : Nat} {q bw : Int} (h : digI us U V n q bw) : 0 ≤ bw ∧ bw ≤ 1 := h.2.2.1
theorem digI.q {us : List Int} {U V : Int} {n : Nat} {q bw : Int} (h : digI us U V n q bw) : 0 ≤ q ∧ q < 4294967296 := h.2.2.2.1
theorem digI_pos {us : List Int} {U V : Int} {n : Nat} {q : Int} (h : digI us U V n q 1) (hU : 0 ≤ U) : 1 ≤ q := by
  obtain ⟨h1, h2, h3, h4, h5, h6⟩ := h
  have := val_lt h2
  rw [h1] at this
  rcases Int.lt_or_le q 1 with hq | hq
  · have : q = 0 := by omega
    subst this
    omega
  · exact hq
theorem digI_step {us us' vs : List Int} {U V : Int} {n : Nat} {q c : Int} (h : digI us U V n q 1) (hV : val vs = V) (hU : 0 ≤ U) (h' : putI us vs us' n n c) (hl : vs.length ≤ n) : digI us' U V n (q - 1) (1 - c) := by
  have hp := digI_pos h hU
  obtain ⟨h1, h2, h3, h4, h5, h6⟩ := h
  have he := putI_end h' h1 hl
  have hlt := val_lt h2
  rw [h1] at hlt
  have hc := h'.c
  refine ⟨h'.len, h'.lim, by omega, by omega, ?_, ?_⟩
  · rw [show q - 1 + 1 = q from by omega]; omega
  · rw [hV] at he
    have e1 : (q - 1) * V = q * V - V := by rw [Int.sub_mul]; omega
    have e2 : B n * (1 - c) = B n - B n * c := by rw [Int.mul_sub]; omega
    omega
theorem digI_end {us : List Int} {U V : Int} {n : Nat} {q : Int} (h : digI us U V n q 0) (hV : 0 < V) : q = U / V ∧ val us = U % V := by
  obtain ⟨h1, h2, h3, h4, h5, h6⟩ := h
  have h7 := val_nonneg h2
  have e : q = U / V := by
    apply Int.le_antisymm
    · exact Int.le_ediv_of_mul_le hV (by omega)
    · have := Int.ediv_lt_of_lt_mul hV h5
      omega
  refine ⟨e, ?_⟩
  have := Int.mul_ediv_add_emod U V
  rw [← e, Int.mul_comm] at this
  omega
/-- The lesser, the greater one of two. -/
def mnI (x y : Int) : Int := if y < x then y else x
def mxI (x y : Int) : Int := if x < y then y else x
/-- The guess. -/
theorem guess_ok {us vs : List Int} {m : Nat} (hu : Lim us) (hv : Lim vs) (hul : us.length = m + 2) (hvl : vs.length = m + 1) (hlt : val us < 4294967296 * val vs) (hv1 : 0 < at_ vs m) (q : Int)
    (hq : q = mnI ((at_ us (m + 1) * 4294967296 + at_ us m) / at_ vs m) 4294967295) : 0 ≤ q ∧ q < 4294967296 ∧ val us < (q + 1) * val vs := by
  have b1 := hu.at_ (m + 1)
  have b2 := hu.at_ m
  have b3 := hv.at_ m
  have h0 : 0 ≤ (at_ us (m + 1) * 4294967296 + at_ us m) / at_ vs m := Int.ediv_nonneg (by omega) (by omega)
  unfold mnI at hq
  have hbd : 0 ≤ q ∧ q < 4294967296 := by rw [hq]; split <;> omega
  refine ⟨hbd.1, hbd.2, ?_⟩
  rw [hq]
  split
  · omega
  · have h1 := val_split us (k := m) (by omega)
    rw [val_drop (k := m) (by omega), val_drop (k := m + 1) (by omega), List.drop_of_length_le (i := m + 1 + 1) (by omega), val_nil] at h1
    have h2 := val_split vs (k := m) (by omega)
    rw [val_drop (k := m) (by omega), List.drop_of_length_le (i := m + 1) (by omega), val_nil] at h2
    have h3 := val_lt (hu.take m)
    rw [len_take (by omega)] at h3
    have h4 := val_nonneg (hv.take m)
    simp only [Int.mul_zero, Int.add_zero] at h1 h2
    rw [show at_ us m + 4294967296 * at_ us (m + 1) = at_ us (m + 1) * 4294967296 + at_ us m from by omega] at h1
    generalize at_ us (m + 1) * 4294967296 + at_ us m = t at *
    have h5 := Int.lt_ediv_add_one_mul_self t hv1
    have h6 : B m * (t + 1) ≤ B m * ((t / at_ vs m + 1) * at_ vs m) := Int.mul_le_mul_of_nonneg_left (by omega) (by have := B_pos m; omega)
    have h7 : (t / at_ vs m + 1) * (B m * at_ vs m) ≤ (t / at_ vs m + 1) * val vs := Int.mul_le_mul_of_nonneg_left (by omega) (by omega)
    have e1 : B m * ((t / at_ vs m + 1) * at_ vs m) = (t / at_ vs m + 1) * (B m * at_ vs m) := by grind
    have e2 : B m * (t + 1) = B m * t + B m := by rw [Int.mul_add, Int.mul_one]
    omega

/-! ### long division -/
theorem val_take_mod {xs : List Int} (hl : Lim xs) {k : Nat} (h : k ≤ xs.length) (hv : val xs < B k) : val (xs.take k) = val xs := by
  have h1 := val_split xs h
  have h2 := val_nonneg (hl.drop k)
  have h3 := val_nonneg (hl.take k)
  rcases Int.lt_or_le 0 (val (xs.drop k)) with h4 | h4
  · have h5 : B k * 1 ≤ B k * val (xs.drop k) := Int.mul_le_mul_of_nonneg_left (by omega) (by have := B_pos k; omega)
    omega
  · have h5 : val (xs.drop k) = 0 := by omega
    rw [h5, Int.mul_zero] at h1
    omega
/-- k digits are still to come. -/
def divI (us qs : List Int) (A D : Int) (n m k : Nat) : Prop := us.length = n ∧ qs.length = m ∧ Lim us ∧ Lim qs ∧ val us < D * B k ∧ val us + D * (B k * val (qs.drop k)) = A
theorem divI.ulen {us qs : List Int} {A D : Int} {n m k : Nat} (h : divI us qs A D n m k) : us.length = n := h.1
theorem divI.qlen {us qs : List Int} {A D : Int} {n m k : Nat} (h : divI us qs A D n m k) : qs.length = m := h.2.1
theorem divI.ulim {us qs : List Int} {A D : Int} {n m k : Nat} (h : divI us qs A D n m k) : Lim us := h.2.2.1
theorem divI.qlim {us qs : List Int} {A D : Int} {n m k : Nat} (h : divI us qs A D n m k) : Lim qs := h.2.2.2.1
theorem divI_start {us : List Int} {A D : Int} {n m : Nat} (h1 : us.length = n) (h2 : Lim us) (h3 : val us = A) (h4 : A < D * B m) : divI us (List.replicate m 0) A D n m m :=
  ⟨h1, by simp, h2, Lim.noughts _, by omega, by rw [List.drop_of_length_le (by simp)]; simp [val]; exact h3⟩
/-- The part that a digit is taken from. -/
theorem divI_part {pre sub post qs : List Int} {A D : Int} {n m j lb : Nat} (h : divI (pre ++ sub ++ post) qs A D n m (j + 1)) (hp : pre.length = j) (hs : sub.length = lb + 1) (hD : D < B lb) : val post = 0 ∧ val sub < 4294967296 * D ∧ 0 ≤ val pre ∧ val pre < B j ∧ 0 ≤ val sub := by
  obtain ⟨h1, h2, h3, h4, h5, h6⟩ := h
  have l1 := h3.left.left
  have l2 := h3.left.right
  have l3 := h3.right
  have v1 := val_nonneg l1
  have v2 := val_nonneg l2
  have v3 := val_nonneg l3
  have v4 := val_lt l1
  rw [hp] at v4
  rw [val_append, val_append, List.length_append, hp, hs, B_succ] at h5
  have e0 : val post = 0 := by
    rcases Int.lt_or_le 0 (val post) with h | h
    · exfalso
      have e1 : B (j + (lb + 1)) * 1 ≤ B (j + (lb + 1)) * val post := Int.mul_le_mul_of_nonneg_left (by omega) (by have := B_pos (j + (lb + 1)); omega)
      have e2 : D * (4294967296 * B j) ≤ B lb * (4294967296 * B j) := Int.mul_le_mul_of_nonneg_right (by omega) (by have := B_pos j; omega)
      have e3 : B (j + (lb + 1)) = B lb * (4294967296 * B j) := by rw [B_add, B_succ]; grind
      have e4 := Int.mul_nonneg (show 0 ≤ B j by have := B_pos j; omega) v2
      omega
    · omega
  refine ⟨e0, ?_, v1, v4, v2⟩
  rw [e0, Int.mul_zero, Int.add_zero] at h5
  have e1 : D * (4294967296 * B j) = B j * (4294967296 * D) := by grind
  rw [e1] at h5
  exact Int.lt_of_mul_lt_mul_left (a := B j) (by omega) (by have := B_pos j; omega)
theorem divI_step {pre sub post sub' qs : List Int} {A D : Int} {n m j lb : Nat} (h : divI (pre ++ sub ++ post) qs A D n m (j + 1)) (hp : pre.length = j) (hs : sub.length = lb + 1) (hD : D < B lb) (hD0 : 0 < D) (hj : j < m)
    (hs' : sub'.length = lb + 1) (hl : Lim sub') (hv : val sub' = val sub % D) : divI (pre ++ sub' ++ post) (qs.set j (val sub / D)) A D n m j := by
  obtain ⟨p1, p2, p3, p4, p5⟩ := divI_part h hp hs hD
  obtain ⟨h1, h2, h3, h4, h5, h6⟩ := h
  have q0 : 0 ≤ val sub / D := Int.ediv_nonneg p5 (by omega)
  have q1 : val sub / D < 4294967296 := Int.ediv_lt_of_lt_mul hD0 p2
  have m0 := Int.emod_nonneg (val sub) (show D ≠ 0 by omega)
  have m1 := Int.emod_lt_of_pos (val sub) hD0
  refine ⟨by simp at h1 ⊢; omega, by simpa using h2, (h3.left.left.append hl).append h3.right, h4.set _ q0 q1, ?_, ?_⟩
  · rw [val_append, val_append, p1, hp, Int.mul_zero, Int.add_zero, hv]
    have : B j * (val sub % D + 1) ≤ B j * D := Int.mul_le_mul_of_nonneg_left (by omega) (by have := B_pos j; omega)
    rw [Int.mul_add, Int.mul_one] at this
    rw [Int.mul_comm D]
    omega
  · rw [val_append, val_append, p1, hp, Int.mul_zero, Int.add_zero] at h6 ⊢
    rw [hv, drop_set _ (by omega), val_cons]
    rw [B_succ] at h6
    have e := Int.mul_ediv_add_emod (val sub) D
    generalize val sub / D = q at *
    generalize val sub % D = r at *
    rw [← e] at h6
    grind
theorem divI_end {us qs : List Int} {A D : Int} {n m : Nat} (h : divI us qs A D n m 0) (hD : 0 < D) : val qs = A / D ∧ val us = A % D := by
  obtain ⟨h1, h2, h3, h4, h5, h6⟩ := h
  rw [B_zero, List.drop_zero, Int.one_mul] at h6
  rw [B_zero, Int.mul_one] at h5
  have h7 := val_nonneg h3
  constructor
  · rw [← h6, Int.add_comm, Int.add_comm, Int.add_mul_ediv_left _ _ (by omega), Int.ediv_eq_zero_of_lt h7 h5, Int.zero_add]
  · rw [← h6, Int.add_mul_emod_self_left, Int.emod_eq_of_lt h7 h5]
theorem lim_pos {N k : Nat} (h : lim N = k + 1) : 0 < N := by
  rcases Nat.eq_zero_or_pos N with h0 | h0
  · subst h0; rw [lim_zero] at h; omega
  · exact h0
/-- The divisor's top limb has z leading noughts. -/
theorem norm_fits {N k z : Nat} (h : lim N = k + 1) (hz : z + nbits (at_ (dig N) k).toNat = 32) : lim (N * 2 ^ z) = k + 1 ∧ N * 2 ^ z < 2 ^ (32 * (k + 1)) := by
  obtain ⟨h1, h2⟩ := nbits_top h
  have h3 := lt_nbits N
  have h4 : N * 2 ^ z < 2 ^ (32 * (k + 1)) := by
    have e : 32 * (k + 1) = nbits N + z := by omega
    rw [e, Nat.pow_add]
    exact Nat.mul_lt_mul_of_pos_right h3 (Nat.two_pow_pos z)
  refine ⟨?_, h4⟩
  have h5 : lim (N * 2 ^ z) ≤ k + 1 := lim_le (by rw [B_two]; exact_mod_cast h4)
  have h6 : lim N ≤ lim (N * 2 ^ z) := lim_mono (Nat.le_mul_of_pos_right _ (Nat.two_pow_pos z))
  omega
theorem shl_fits {M k z : Nat} (h : lim M = k) (hz : z < 32) : M * 2 ^ z < 2 ^ (32 * (k + 1)) := by
  have h1 := lt_B_lim M
  rw [h, B_two] at h1
  rw [show 32 * (k + 1) = 32 * k + 32 from by omega, Nat.pow_add]
  have h2 : M < 2 ^ (32 * k) := by omega
  calc M * 2 ^ z ≤ M * 2 ^ 32 := Nat.mul_le_mul_left _ (Nat.pow_le_pow_right (by omega) (by omega))
    _ < 2 ^ (32 * k) * 2 ^ 32 := Nat.mul_lt_mul_of_pos_right h2 (by omega)
theorem div_room {M N la k z : Nat} (h : lim N = k + 1) (ha : lim M = la) (hl : k + 1 ≤ la) : ((M * 2 ^ z : Nat) : Int) < ((N * 2 ^ z : Nat) : Int) * B (la - (k + 1) + 1) := by
  have h1 := lt_B_lim M
  rw [ha] at h1
  have hne : dig N ≠ [] := fun e => by
    have h0 : lim N = 0 := by unfold lim; rw [e]; rfl
    omega
  have h2 := can_ge (dig_lim N) (dig_can N) hne
  rw [dig_val, show (dig N).length = k + 1 from h, Nat.add_sub_cancel] at h2
  have h3 : B k * B (la - (k + 1) + 1) ≤ N * B (la - (k + 1) + 1) := Int.mul_le_mul_of_nonneg_right h2 (by have := B_pos (la - (k + 1) + 1); omega)
  rw [← B_add, show k + (la - (k + 1) + 1) = la from by omega] at h3
  rw [Int.natCast_mul, Int.natCast_mul]
  have hp : (0 : Int) < ((2 ^ z : Nat) : Int) := by exact_mod_cast Nat.two_pow_pos z
  have h4 : (M : Int) * ((2 ^ z : Nat) : Int) < (N * B (la - (k + 1) + 1)) * ((2 ^ z : Nat) : Int) := Int.mul_lt_mul_of_pos_right (by omega) hp
  calc (M : Int) * ((2 ^ z : Nat) : Int) < (N * B (la - (k + 1) + 1)) * ((2 ^ z : Nat) : Int) := h4
    _ = N * ((2 ^ z : Nat) : Int) * B (la - (k + 1) + 1) := by grind
end Mt
end Go.Proofs.Ytlmiadjogdfjkaa
