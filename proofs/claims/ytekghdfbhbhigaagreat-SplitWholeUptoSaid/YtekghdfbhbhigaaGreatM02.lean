/- Plain facts on lists of limbs (base 2^32): the number that a list says, lists in one form. No program in sight. -/
import Derived.Lib.Hide
import Derived.Lib.ItoaNum
import Derived.Test.YtekghdfbhbhigaaGreatProg
import Derived.Laws.BitsAllLaws
import Derived.Laws.Bits64
import Derived.Shelf.Small.Bits
import Derived.Test.YtekghdfbhbhigaaGreatM01
set_option linter.unusedVariables false
set_option linter.unusedSimpArgs false
namespace Go.Proofs.YtekghdfbhbhigaaGreat
namespace Mt

/-- The number that limbs say, the lowest first. -/
def val : List Int → Int
  | [] => 0
  | x :: xs => x + 4294967296 * val xs
/-- Limbs are limbs. -/
def Lim (xs : List Int) : Prop := ∀ x, x ∈ xs → 0 ≤ x ∧ x < 4294967296
/-- No nought at the end. -/
def Can (xs : List Int) : Prop := xs.getLast? ≠ some 0
/-- An element; 0 behind the end. -/
def at_ (xs : List Int) (k : Nat) : Int := xs.getD k 0
/-- 2^32 to the k. -/
def B (k : Nat) : Int := 4294967296 ^ k

theorem B_zero : B 0 = 1 := rfl
theorem B_succ (k : Nat) : B (k + 1) = 4294967296 * B k := by unfold B; rw [Int.pow_succ]; omega
theorem B_pos (k : Nat) : 0 < B k := by unfold B; exact Int.pow_pos (by omega)
theorem B_add (j k : Nat) : B (j + k) = B j * B k := by unfold B; rw [Int.pow_add]
theorem B_mono {j k : Nat} (h : j ≤ k) : B j ≤ B k := by
  obtain ⟨d, rfl⟩ : ∃ d, k = j + d := ⟨k - j, by omega⟩
  rw [B_add]
  have h1 := B_pos j
  have h2 := B_pos d
  calc B j = B j * 1 := by rw [Int.mul_one]
    _ ≤ B j * B d := Int.mul_le_mul_of_nonneg_left (by omega) (by omega)

theorem val_nil : val [] = 0 := rfl
theorem val_cons (x : Int) (xs : List Int) : val (x :: xs) = x + 4294967296 * val xs := rfl
theorem Lim.nil : Lim [] := fun _ h => by cases h
theorem Lim.tail {x : Int} {xs : List Int} (h : Lim (x :: xs)) : Lim xs := fun y hy => h y (List.mem_cons_of_mem _ hy)
theorem Lim.head {x : Int} {xs : List Int} (h : Lim (x :: xs)) : 0 ≤ x ∧ x < 4294967296 := h x List.mem_cons_self
theorem Lim.cons {x : Int} {xs : List Int} (h0 : 0 ≤ x) (h1 : x < 4294967296) (h : Lim xs) : Lim (x :: xs) := by
  intro y hy
  rcases List.mem_cons.1 hy with rfl | hy
  · exact ⟨h0, h1⟩
  · exact h y hy
theorem Lim.append {xs ys : List Int} (h : Lim xs) (k : Lim ys) : Lim (xs ++ ys) := fun z hz => by
  rcases List.mem_append.1 hz with hz | hz
  · exact h z hz
  · exact k z hz
theorem Lim.left {xs ys : List Int} (h : Lim (xs ++ ys)) : Lim xs := fun z hz => h z (List.mem_append_left _ hz)
theorem Lim.right {xs ys : List Int} (h : Lim (xs ++ ys)) : Lim ys := fun z hz => h z (List.mem_append_right _ hz)
theorem Lim.take {xs : List Int} (h : Lim xs) (k : Nat) : Lim (xs.take k) := fun z hz => h z (List.mem_of_mem_take hz)
theorem Lim.drop {xs : List Int} (h : Lim xs) (k : Nat) : Lim (xs.drop k) := fun z hz => h z (List.mem_of_mem_drop hz)
theorem Lim.one {x : Int} (h0 : 0 ≤ x) (h1 : x < 4294967296) : Lim [x] := Lim.cons h0 h1 Lim.nil
theorem Lim.noughts (n : Nat) : Lim (List.replicate n 0) := fun z hz => by
  have := List.eq_of_mem_replicate hz
  omega
theorem Lim.at_ {xs : List Int} (h : Lim xs) (k : Nat) : 0 ≤ at_ xs k ∧ at_ xs k < 4294967296 := by
  unfold Mt.at_
  rw [List.getD_eq_getElem?_getD]
  cases e : xs[k]? with
  | none => simp
  | some x => exact h x (List.mem_of_getElem? e)
theorem Lim.set {xs : List Int} (h : Lim xs) (k : Nat) {x : Int} (h0 : 0 ≤ x) (h1 : x < 4294967296) : Lim (xs.set k x) := fun z hz => by
  rcases List.mem_or_eq_of_mem_set hz with hz | rfl
  · exact h z hz
  · exact ⟨h0, h1⟩

theorem val_nonneg {xs : List Int} (h : Lim xs) : 0 ≤ val xs := by
  induction xs with
  | nil => simp [val]
  | cons x xs ih =>
    have := ih h.tail
    have := h.head
    rw [val_cons]; omega
theorem val_lt {xs : List Int} (h : Lim xs) : val xs < B xs.length := by
  induction xs with
  | nil => simp [val, B]
  | cons x xs ih =>
    have := ih h.tail
    have := h.head
    rw [val_cons, List.length_cons, B_succ]; omega
theorem val_append (xs ys : List Int) : val (xs ++ ys) = val xs + B xs.length * val ys := by
  induction xs with
  | nil => simp [val, B]
  | cons x xs ih =>
    rw [List.cons_append, val_cons, val_cons, ih, List.length_cons, B_succ, Int.mul_add, Int.mul_assoc]; omega
theorem val_one (x : Int) : val [x] = x := by simp [val]
theorem val_snoc (xs : List Int) (x : Int) : val (xs ++ [x]) = val xs + B xs.length * x := by rw [val_append, val_one]
theorem val_noughts (n : Nat) : val (List.replicate n 0) = 0 := by
  induction n with
  | zero => rfl
  | succ n ih => rw [List.replicate_succ, val_cons, ih]; omega
theorem take_snoc {xs : List Int} {k : Nat} (h : k < xs.length) : xs.take (k + 1) = xs.take k ++ [at_ xs k] := by
  rw [List.take_succ_eq_append_getElem h]
  unfold at_
  rw [List.getD_eq_getElem?_getD, List.getElem?_eq_getElem h]; rfl
theorem len_take {xs : List Int} {k : Nat} (h : k ≤ xs.length) : (xs.take k).length = k := by rw [List.length_take]; omega
theorem val_take_succ {xs : List Int} {k : Nat} (h : k < xs.length) : val (xs.take (k + 1)) = val (xs.take k) + B k * at_ xs k := by
  rw [take_snoc h, val_snoc, len_take (by omega)]
theorem val_split (xs : List Int) {k : Nat} (h : k ≤ xs.length) : val xs = val (xs.take k) + B k * val (xs.drop k) := by
  conv => lhs; rw [← List.take_append_drop k xs, val_append, len_take h]
theorem val_drop {xs : List Int} {k : Nat} (h : k < xs.length) : val (xs.drop k) = at_ xs k + 4294967296 * val (xs.drop (k + 1)) := by
  rw [List.drop_eq_getElem_cons h, val_cons]
  unfold at_
  rw [List.getD_eq_getElem?_getD, List.getElem?_eq_getElem h]; rfl
theorem val_set {xs : List Int} {k : Nat} (x : Int) (h : k < xs.length) : val (xs.set k x) = val xs + B k * (x - at_ xs k) := by
  induction xs generalizing k with
  | nil => simp at h
  | cons y ys ih =>
    cases k with
    | zero => simp [val, B, at_]; omega
    | succ k =>
      have := ih (k := k) (by simpa using h)
      rw [List.set_cons_succ, val_cons, val_cons, this, B_succ]
      have e : at_ (y :: ys) (k + 1) = at_ ys k := rfl
      rw [e, Int.mul_add, Int.mul_assoc]; omega
theorem take_set {xs : List Int} {k : Nat} (x : Int) (h : k < xs.length) : (xs.set k x).take (k + 1) = xs.take k ++ [x] := by
  rw [List.take_succ_eq_append_getElem (by simpa using h), List.take_set_of_le (Nat.le_refl k)]
  simp
theorem at_set {xs : List Int} {k : Nat} (x : Int) (h : k < xs.length) : at_ (xs.set k x) k = x := by
  unfold at_
  rw [List.getD_eq_getElem?_getD, List.getElem?_set_self h]; rfl
theorem at_set_ne {xs : List Int} {j k : Nat} (x : Int) (h : j ≠ k) : at_ (xs.set j x) k = at_ xs k := by
  unfold at_
  rw [List.getD_eq_getElem?_getD, List.getD_eq_getElem?_getD, List.getElem?_set_ne h]
theorem at_ge {xs : List Int} {k : Nat} (h : xs.length ≤ k) : at_ xs k = 0 := by
  unfold at_
  rw [List.getD_eq_getElem?_getD, List.getElem?_eq_none h]; rfl

/-! ### one form -/
/-- How many limbs stay when noughts at the end (of the first n) go. -/
def tl (xs : List Int) : Nat → Nat
  | 0 => 0
  | n + 1 => if at_ xs n = 0 then tl xs n else n + 1
theorem tl_le (xs : List Int) (n : Nat) : tl xs n ≤ n := by
  induction n with
  | zero => exact Nat.le_refl _
  | succ n ih => unfold tl; split <;> omega
theorem tl_val {xs : List Int} {n : Nat} (h : n ≤ xs.length) : val (xs.take (tl xs n)) = val (xs.take n) := by
  induction n with
  | zero => rfl
  | succ n ih =>
    unfold tl
    split
    · rename_i e
      rw [ih (by omega), val_take_succ (by omega), e, Int.mul_zero, Int.add_zero]
    · rfl
theorem getLast?_take {xs : List Int} {n : Nat} (h : n + 1 ≤ xs.length) : (xs.take (n + 1)).getLast? = some (at_ xs n) := by
  rw [take_snoc (by omega), List.getLast?_append]; simp
theorem tl_can {xs : List Int} {n : Nat} (h : n ≤ xs.length) : Can (xs.take (tl xs n)) := by
  induction n with
  | zero => simp [tl, Can]
  | succ n ih =>
    unfold tl
    split
    · exact ih (by omega)
    · rename_i e
      unfold Can
      rw [getLast?_take h]
      simpa using e
theorem tl_of_can {xs : List Int} (h : Can xs) : tl xs xs.length = xs.length := by
  cases e : xs.length with
  | zero => rfl
  | succ n =>
    unfold tl
    rw [if_neg]
    intro e0
    have := getLast?_take (xs := xs) (n := n) (by omega)
    rw [← e, List.take_length, e0] at this
    exact h this

theorem can_tail {x : Int} {xs : List Int} (h : Can (x :: xs)) : Can xs := by
  unfold Can at *
  cases xs with
  | nil => simp
  | cons y ys => rwa [List.getLast?_cons_cons] at h
theorem can_pos {xs : List Int} (hl : Lim xs) (h : Can xs) (hn : xs ≠ []) : 0 < val xs := by
  induction xs with
  | nil => exact absurd rfl hn
  | cons x xs ih =>
    have h0 := hl.head
    have h1 := val_nonneg hl.tail
    rw [val_cons]
    cases xs with
    | nil =>
      have : x ≠ 0 := by simpa [Can] using h
      simp [val]; omega
    | cons y ys =>
      have := ih hl.tail (can_tail h) (by simp)
      omega
theorem can_unique {xs ys : List Int} (hx : Lim xs) (hy : Lim ys) (cx : Can xs) (cy : Can ys) (h : val xs = val ys) : xs = ys := by
  induction xs generalizing ys with
  | nil =>
    cases ys with
    | nil => rfl
    | cons y ys => have := can_pos hy cy (by simp); rw [← h] at this; simp [val] at this
  | cons x xs ih =>
    cases ys with
    | nil => have := can_pos hx cx (by simp); rw [h] at this; simp [val] at this
    | cons y ys =>
      rw [val_cons, val_cons] at h
      have h1 := hx.head
      have h2 := hy.head
      have e : x = y := by omega
      subst e
      rw [ih hx.tail hy.tail (can_tail cx) (can_tail cy) (by omega)]
/-- A list in one form with top limb: at least so great. -/
theorem can_ge {xs : List Int} (hl : Lim xs) (h : Can xs) (hn : xs ≠ []) : B (xs.length - 1) ≤ val xs := by
  obtain ⟨n, hlen⟩ : ∃ n, xs.length = n + 1 := ⟨xs.length - 1, by have := List.length_pos_iff.2 hn; omega⟩
  have h1 := val_split xs (k := n) (by omega)
  have h2 := val_drop (xs := xs) (k := n) (by omega)
  rw [List.drop_of_length_le (i := n + 1) (by omega), val_nil, Int.mul_zero, Int.add_zero] at h2
  have h3 := val_nonneg (hl.take n)
  have h4 := hl.at_ n
  have h5 := getLast?_take (xs := xs) (n := n) (by omega)
  rw [← hlen, List.take_length] at h5
  have h6 : at_ xs n ≠ 0 := fun e => h (by rw [h5, e])
  rw [h1, h2, hlen]
  have h7 : B n * 1 ≤ B n * at_ xs n := Int.mul_le_mul_of_nonneg_left (by omega) (by have := B_pos n; omega)
  simp only [Nat.add_sub_cancel]
  omega
theorem can_len_le {xs : List Int} (hl : Lim xs) (h : Can xs) {n : Nat} (hv : val xs < B n) : xs.length ≤ n := by
  rcases Nat.lt_or_ge n xs.length with hlt | hge
  · have h1 := can_ge hl h (by intro e; subst e; simp at hlt)
    have h2 := B_mono (show n ≤ xs.length - 1 by omega)
    omega
  · exact hge

/-- The limbs of a number. -/
def dig (n : Nat) : List Int := if h : n = 0 then [] else (n % 4294967296 : Nat) :: dig (n / 4294967296)
termination_by n
decreasing_by omega
theorem dig_zero : dig 0 = [] := by unfold dig; rfl
theorem dig_pos {n : Nat} (h : n ≠ 0) : dig n = ((n % 4294967296 : Nat) : Int) :: dig (n / 4294967296) := by
  rw [dig, dif_neg h]
theorem dig_val (n : Nat) : val (dig n) = n := by
  induction n using Nat.strongRecOn with
  | ind n ih =>
    by_cases h : n = 0
    · subst h; rw [dig_zero]; rfl
    · rw [dig_pos h, val_cons, ih _ (by omega)]; omega
theorem dig_lim (n : Nat) : Lim (dig n) := by
  induction n using Nat.strongRecOn with
  | ind n ih =>
    by_cases h : n = 0
    · subst h; rw [dig_zero]; exact Lim.nil
    · rw [dig_pos h]; exact Lim.cons (by omega) (by omega) (ih _ (by omega))
theorem dig_can (n : Nat) : Can (dig n) := by
  induction n using Nat.strongRecOn with
  | ind n ih =>
    by_cases h : n = 0
    · subst h; rw [dig_zero]; simp [Can]
    · rw [dig_pos h]
      by_cases h2 : n / 4294967296 = 0
      · rw [h2, dig_zero]; simp [Can]; omega
      · have := ih (n / 4294967296) (by omega)
        rw [dig_pos h2] at this ⊢
        unfold Can at *
        rwa [List.getLast?_cons_cons]
theorem dig_of {xs : List Int} (hl : Lim xs) (hc : Can xs) {n : Nat} (h : val xs = n) : xs = dig n :=
  can_unique hl (dig_lim n) hc (dig_can n) (by rw [h, dig_val])
/-- How many limbs a number has. -/
def lim (n : Nat) : Nat := (dig n).length
theorem lim_le {n k : Nat} (h : (n : Int) < B k) : lim n ≤ k := can_len_le (dig_lim n) (dig_can n) (by rwa [dig_val])
theorem lt_B_lim (n : Nat) : (n : Int) < B (lim n) := by
  have := val_lt (dig_lim n)
  rwa [dig_val] at this
theorem lim_mono {m n : Nat} (h : m ≤ n) : lim m ≤ lim n := lim_le (by have := lt_B_lim n; omega)
theorem lim_zero : lim 0 = 0 := by unfold lim; rw [dig_zero]; rfl
theorem lim_mul (m n : Nat) : lim (m * n) ≤ lim m + lim n := by
  apply lim_le
  rw [B_add, Int.natCast_mul]
  have h1 := lt_B_lim m
  have h2 := lt_B_lim n
  calc (m : Int) * n ≤ m * B (lim n) := Int.mul_le_mul_of_nonneg_left (by omega) (by omega)
    _ < B (lim m) * B (lim n) := Int.mul_lt_mul_of_pos_right h1 (B_pos _)
theorem lim_add {m n k : Nat} (hm : lim m ≤ k) (hn : lim n ≤ k) : lim (m + n) ≤ k + 1 := by
  apply lim_le
  have h1 := lt_B_lim m
  have h2 := lt_B_lim n
  have h3 := B_mono hm
  have h4 := B_mono hn
  have h5 := B_pos k
  rw [B_succ]
  omega

/-! ### order -/
theorem val_lt_of {xs ys : List Int} {j : Nat} (hx : Lim xs) (hy : Lim ys) (hl : xs.length = ys.length) (hj : j < xs.length) (hd : xs.drop (j + 1) = ys.drop (j + 1)) (h : at_ xs j < at_ ys j) : val xs < val ys := by
  rw [val_split xs (k := j) (by omega), val_split ys (k := j) (by omega), val_drop hj, val_drop (xs := ys) (by omega), hd]
  have h1 := val_lt (hx.take j)
  have h2 := val_nonneg (hy.take j)
  rw [len_take (by omega)] at h1
  have h3 := B_pos j
  have h4 : B j * (at_ xs j + 4294967296 * val (ys.drop (j + 1)) + 1) ≤ B j * (at_ ys j + 4294967296 * val (ys.drop (j + 1))) := Int.mul_le_mul_of_nonneg_left (by omega) (by omega)
  rw [Int.mul_add _ _ 1, Int.mul_one] at h4
  omega
theorem lim_lt {m n : Nat} (h : lim m < lim n) : m < n := by
  rcases Nat.lt_or_ge m n with h1 | h1
  · exact h1
  · have := lim_mono h1; omega
theorem drop_step {xs ys : List Int} {j : Nat} (hl : xs.length = ys.length) (hj : j < xs.length) (hd : xs.drop (j + 1) = ys.drop (j + 1)) (h : at_ xs j = at_ ys j) : xs.drop j = ys.drop j := by
  have hj' : j < ys.length := by omega
  rw [List.drop_eq_getElem_cons hj, List.drop_eq_getElem_cons hj', hd]
  unfold at_ at h
  rw [List.getD_eq_getElem?_getD, List.getD_eq_getElem?_getD, List.getElem?_eq_getElem hj, List.getElem?_eq_getElem hj'] at h
  rw [show xs[j] = ys[j] from h]
theorem dig_drop {m n j : Nat} (hl : lim m = lim n) (hj : j < lim m) (hd : (dig m).drop (j + 1) = (dig n).drop (j + 1)) (h : at_ (dig m) j = at_ (dig n) j) : (dig m).drop j = (dig n).drop j := drop_step hl hj hd h
/-- -1, 0, 1. -/
def sgnc (x y : Int) : Int := if x < y then -1 else if y < x then 1 else 0
theorem sgnc_lt {x y : Int} (h : x < y) : sgnc x y = -1 := if_pos h
theorem sgnc_gt {x y : Int} (h : y < x) : sgnc x y = 1 := by unfold sgnc; rw [if_neg (by omega), if_pos h]
theorem sgnc_eq {x y : Int} (h : x = y) : sgnc x y = 0 := by unfold sgnc; rw [if_neg (by omega), if_neg (by omega)]
theorem dig_cmp_lt {m n : Nat} {j : Nat} (hl : lim m = lim n) (hj : j < lim m) (hd : (dig m).drop (j + 1) = (dig n).drop (j + 1)) (h : at_ (dig m) j < at_ (dig n) j) : m < n := by
  have := val_lt_of (dig_lim m) (dig_lim n) hl hj hd h
  rw [dig_val, dig_val] at this
  omega

/-! ### binary digits -/
/-- How many binary digits. -/
def nbits (n : Nat) : Nat := if n = 0 then 0 else Nat.log2 n + 1
theorem nbits_le {n k : Nat} (h : n < 2 ^ k) : nbits n ≤ k := by
  unfold nbits
  split
  · omega
  · rename_i h0
    exact (Nat.log2_lt h0).2 h
theorem lt_nbits (n : Nat) : n < 2 ^ nbits n := by
  unfold nbits
  split
  · rename_i h; subst h; simp
  · exact Nat.lt_log2_self
theorem nbits_ge {n k : Nat} (h : 2 ^ k ≤ n) : k + 1 ≤ nbits n := by
  have h1 := lt_nbits n
  have h2 : 2 ^ k < 2 ^ nbits n := by omega
  exact (Nat.pow_lt_pow_iff_right (by omega)).1 h2
theorem nbits_eq {n k : Nat} (h0 : 2 ^ k ≤ n) (h1 : n < 2 ^ (k + 1)) : nbits n = k + 1 := by
  have := nbits_ge h0
  have := nbits_le h1
  omega
theorem pow_le_nbits {n : Nat} (h : n ≠ 0) : 2 ^ (nbits n - 1) ≤ n := by
  unfold nbits
  rw [if_neg h, Nat.add_sub_cancel]
  exact Nat.log2_self_le h
theorem B_two (k : Nat) : B k = ((2 ^ (32 * k) : Nat) : Int) := by
  unfold B
  rw [Nat.pow_mul]
  simp
theorem nbits_top {n k : Nat} (hk : lim n = k + 1) : nbits n = 32 * k + nbits (at_ (dig n) k).toNat ∧ at_ (dig n) k ≠ 0 := by
  have hlen : (dig n).length = k + 1 := hk
  have h1 := val_split (dig n) (k := k) (by omega)
  have h2 := val_drop (xs := dig n) (k := k) (by omega)
  rw [List.drop_of_length_le (i := k + 1) (by omega), val_nil, Int.mul_zero, Int.add_zero] at h2
  have h3 := val_nonneg ((dig_lim n).take k)
  have h3' := val_lt ((dig_lim n).take k)
  rw [len_take (by omega)] at h3'
  have h4 := (dig_lim n).at_ k
  have h5 := getLast?_take (xs := dig n) (n := k) (by omega)
  rw [← hlen, List.take_length] at h5
  have h6 : at_ (dig n) k ≠ 0 := fun e => dig_can n (by rw [h5, e])
  refine ⟨?_, h6⟩
  rw [dig_val, h2] at h1
  obtain ⟨t, ht⟩ : ∃ t : Nat, at_ (dig n) k = t := ⟨(at_ (dig n) k).toNat, by omega⟩
  rw [ht] at h1 h4 h6 ⊢
  have ht0 : t ≠ 0 := by omega
  have hb1 := pow_le_nbits ht0
  have hb2 := lt_nbits t
  have hb3 : 1 ≤ nbits t := by unfold nbits; rw [if_neg ht0]; omega
  rw [B_two] at h1 h3'
  obtain ⟨v, hv⟩ : ∃ v : Nat, val ((dig n).take k) = v := ⟨(val ((dig n).take k)).toNat, by omega⟩
  rw [hv] at h1 h3'
  have hn : n = v + 2 ^ (32 * k) * t := by
    have : (n : Int) = ((v + 2 ^ (32 * k) * t : Nat) : Int) := by rw [h1]; simp
    omega
  have hvlt : v < 2 ^ (32 * k) := by omega
  obtain ⟨m, hm⟩ : ∃ m, nbits t = m + 1 := ⟨nbits t - 1, by omega⟩
  rw [Int.toNat_natCast, hm, show 32 * k + (m + 1) = (32 * k + m) + 1 from by omega]
  rw [hm] at hb1 hb2
  rw [Nat.add_sub_cancel] at hb1
  refine nbits_eq ?_ ?_
  · rw [Nat.pow_add]
    calc 2 ^ (32 * k) * 2 ^ m ≤ 2 ^ (32 * k) * t := Nat.mul_le_mul_left _ hb1
      _ ≤ n := by omega
  · rw [show 32 * k + m + 1 = 32 * k + (m + 1) from by omega, Nat.pow_add]
    calc n < 2 ^ (32 * k) * (t + 1) := by rw [Nat.mul_add, Nat.mul_one]; omega
      _ ≤ 2 ^ (32 * k) * 2 ^ (m + 1) := Nat.mul_le_mul_left _ (by omega)

/-! ### one limb divides -/
theorem drop_set {xs : List Int} {k : Nat} (x : Int) (h : k < xs.length) : (xs.set k x).drop k = x :: xs.drop (k + 1) := by
  rw [List.drop_eq_getElem_cons (by simpa using h), List.getElem_set_self, List.drop_set, if_pos (by omega)]
def shortI (d : Int) (xs zs : List Int) (k : Nat) (r : Int) : Prop := 0 ≤ r ∧ r < d ∧ zs.length = xs.length ∧ Lim zs ∧ val (xs.drop k) = d * val (zs.drop k) + r
theorem shortI.lim {d : Int} {xs zs : List Int} {k : Nat} {r : Int} (h : shortI d xs zs k r) : Lim zs := h.2.2.2.1
theorem shortI.len {d : Int} {xs zs : List Int} {k : Nat} {r : Int} (h : shortI d xs zs k r) : zs.length = xs.length := h.2.2.1
theorem shortI.bd {d : Int} {xs zs : List Int} {k : Nat} {r : Int} (h : shortI d xs zs k r) : 0 ≤ r ∧ r < d := ⟨h.1, h.2.1⟩
/-! ### shifts -/
theorem pow_split {r : Nat} (h : r ≤ 32) : (2 : Int) ^ r * 2 ^ (32 - r) = 4294967296 := by
  rw [← Int.pow_add, show r + (32 - r) = 32 from by omega]; rfl
theorem pow2_pos (r : Nat) : (0 : Int) < 2 ^ r := Int.pow_pos (by omega)
theorem pow2_le {r : Nat} (h : r < 32) : (2 : Int) ^ r ≤ 2147483648 := by
  have e := pow_split (show r ≤ 32 by omega)
  have h1 := pow2_pos r
  obtain ⟨d, hd⟩ : ∃ d, 32 - r = d + 1 := ⟨31 - r, by omega⟩
  rw [hd, Int.pow_succ] at e
  have h2 := pow2_pos d
  have h3 : (2 : Int) ^ r * 1 ≤ 2 ^ r * 2 ^ d := Int.mul_le_mul_of_nonneg_left (by omega) (by omega)
  rw [← Int.mul_assoc] at e
  omega
/-- A limb shifted: what stays below, what goes over. -/
theorem shl_limb {x : Int} {r : Nat} (hr : r < 32) (h0 : 0 ≤ x) (h1 : x < 4294967296) :
    0 ≤ x * 2 ^ r ∧ x * 2 ^ r < 9223372036854775808 ∧ (x * 2 ^ r % 4294967296) % 2 ^ r = 0 ∧ x * 2 ^ r % 4294967296 + 2 ^ r ≤ 4294967296 ∧ x * 2 ^ r / 4294967296 < 2 ^ r := by
  have hP := pow2_pos r
  have hP2 := pow2_le hr
  have hR := pow2_pos (32 - r)
  have e := pow_split (show r ≤ 32 by omega)
  have e1 : x * 2 ^ r % 4294967296 = 2 ^ r * (x % 2 ^ (32 - r)) := by rw [← e, Int.mul_comm x, Int.mul_emod_mul_of_pos _ _ hP]
  have e2 : x * 2 ^ r / 4294967296 = x / 2 ^ (32 - r) := by rw [← e, Int.mul_comm x, Int.mul_ediv_mul_of_pos _ _ hP]
  have h2 : x * 2 ^ r ≤ 4294967295 * 2147483648 := Int.mul_le_mul (by omega) hP2 (by omega) (by omega)
  have h3 := Int.emod_lt_of_pos x hR
  have h4 := Int.emod_nonneg x (show (2 : Int) ^ (32 - r) ≠ 0 by omega)
  refine ⟨Int.mul_nonneg h0 (by omega), by omega, ?_, ?_, ?_⟩
  · rw [e1]; exact Int.mul_emod_right _ _
  · rw [e1]
    have : (2 : Int) ^ r * (x % 2 ^ (32 - r) + 1) ≤ 2 ^ r * 2 ^ (32 - r) := Int.mul_le_mul_of_nonneg_left (by omega) (by omega)
    rw [e, Int.mul_add, Int.mul_one] at this
    exact this
  · rw [e2]
    exact Int.ediv_lt_of_lt_mul hR (by rw [e]; exact h1)
def shlI (xs zs : List Int) (n q : Nat) (P : Int) (k : Nat) : Prop := zs.length = n ∧ Lim zs ∧ val zs = B q * (P * val (xs.take k)) ∧ at_ zs (k + q) < P ∧ ∀ j, k + q < j → at_ zs j = 0
theorem shlI.lim {xs zs : List Int} {n q : Nat} {P : Int} {k : Nat} (h : shlI xs zs n q P k) : Lim zs := h.2.1
theorem shlI.top {xs zs : List Int} {n q : Nat} {P : Int} {k : Nat} (h : shlI xs zs n q P k) : 0 ≤ at_ zs (k + q) ∧ at_ zs (k + q) < P := ⟨(h.2.1.at_ _).1, h.2.2.2.1⟩
theorem at_noughts (n k : Nat) : at_ (List.replicate n 0) k = 0 := by
  unfold at_; rw [List.getD_eq_getElem?_getD, List.getElem?_replicate]; split <;> rfl
theorem shlI_start (xs : List Int) (n q : Nat) {P : Int} (hP : 0 < P) : shlI xs (List.replicate n 0) n q P 0 :=
  ⟨by simp, Lim.noughts _, by rw [val_noughts]; simp [val], by rw [at_noughts]; exact hP, fun j _ => at_noughts n j⟩
theorem shlI_step {xs zs : List Int} {n q r : Nat} {k : Nat} (h : shlI xs zs n q (2 ^ r) k) (hr : r < 32) (hk : k < xs.length) (hn : k + q + 1 < n) (hx : Lim xs) :
    shlI xs ((zs.set (k + q) (at_ zs (k + q) + at_ xs k * 2 ^ r % 4294967296)).set (k + q + 1) (at_ xs k * 2 ^ r / 4294967296)) n q (2 ^ r) (k + 1) := by
  obtain ⟨h1, h2, h3, h4, h5⟩ := h
  have bx := hx.at_ k
  have bz := h2.at_ (k + q)
  obtain ⟨l1, l2, l3, l4, l5⟩ := shl_limb hr bx.1 bx.2
  have hP := pow2_pos r
  have hP2 := pow2_le hr
  refine ⟨by simpa using h1, (h2.set _ (by omega) (by omega)).set _ (by omega) (by omega), ?_, ?_, ?_⟩
  · rw [val_set _ (by simp; omega), at_set_ne _ (by omega), h5 (k + q + 1) (by omega), val_set _ (by omega), h3, val_take_succ hk, B_succ, B_add, Int.sub_zero]
    have e : at_ zs (k + q) + at_ xs k * 2 ^ r % 4294967296 - at_ zs (k + q) = at_ xs k * 2 ^ r - 4294967296 * (at_ xs k * 2 ^ r / 4294967296) := by omega
    rw [e]
    generalize at_ xs k * 2 ^ r / 4294967296 = g
    grind
  · rw [show k + 1 + q = k + q + 1 from by omega, at_set _ (by simp; omega)]; exact l5
  · intro j hj
    rw [at_set_ne _ (by omega), at_set_ne _ (by omega)]
    exact h5 j (by omega)
theorem shlI_end {xs zs : List Int} {n q : Nat} {P : Int} (h : shlI xs zs n q P xs.length) : val zs = B q * (P * val xs) := by
  have := h.2.2.1
  rwa [List.take_length] at this
theorem B_pow (q r : Nat) (N : Nat) : B q * (2 ^ r * (N : Int)) = ((N * 2 ^ (32 * q + r) : Nat) : Int) := by
  rw [B_two, Nat.pow_add]
  simp
  grind

theorem emod_two (y : Int) {a b : Int} (ha : 0 < a) (hb : 0 < b) : y % (a * b) = y % a + a * (y / a % b) := by
  have h1 := Int.mul_ediv_add_emod y a
  have h2 := Int.mul_ediv_add_emod (y / a) b
  have h3 := Int.emod_nonneg y (show a ≠ 0 by omega)
  have h4 := Int.emod_lt_of_pos y ha
  have h5 := Int.emod_nonneg (y / a) (show b ≠ 0 by omega)
  have h6 := Int.emod_lt_of_pos (y / a) hb
  have e : y = (y % a + a * (y / a % b)) + (a * b) * (y / a / b) := by
    conv => lhs; rw [← h1, ← h2]
    grind
  conv => lhs; rw [e]
  rw [Int.add_mul_emod_self_left]
  refine Int.emod_eq_of_lt (by have := Int.mul_nonneg (show 0 ≤ a by omega) h5; omega) ?_
  have : a * (y / a % b + 1) ≤ a * b := Int.mul_le_mul_of_nonneg_left (by omega) (by omega)
  rw [Int.mul_add, Int.mul_one] at this
  omega
theorem val_drop_div {xs : List Int} (hl : Lim xs) {k : Nat} (h : k ≤ xs.length) : val (xs.drop k) = val xs / B k := by
  have h1 := val_split xs h
  have h2 := val_lt (hl.take k)
  have h3 := val_nonneg (hl.take k)
  rw [len_take h] at h2
  rw [h1, Int.mul_comm, Int.add_mul_ediv_right _ _ (by have := B_pos k; omega), Int.ediv_eq_zero_of_lt h3 h2, Int.zero_add]
def shrI (xs zs : List Int) (n q r k : Nat) : Prop := zs.length = n ∧ Lim zs ∧ val (zs.take k) = val (xs.drop q) / 2 ^ r % B k
theorem shrI.lim {xs zs : List Int} {n q r k : Nat} (h : shrI xs zs n q r k) : Lim zs := h.2.1
theorem shrI_start (xs : List Int) (n q r : Nat) : shrI xs (List.replicate n 0) n q r 0 := ⟨by simp, Lim.noughts _, by rw [B_zero, Int.emod_one]; rfl⟩
theorem shr_two {x y t : Int} {r : Nat} (hr : r < 32) : (x + 4294967296 * (y + 4294967296 * t)) / 2 ^ r % 4294967296 = (x + y * 4294967296) / 2 ^ r % 4294967296 := by
  have hP := pow2_pos r
  have e := pow_split (show r ≤ 32 by omega)
  have e1 : x + 4294967296 * (y + 4294967296 * t) = (x + y * 4294967296) + (4294967296 * (2 ^ (32 - r) * t)) * 2 ^ r := by rw [← e]; grind
  rw [e1, Int.add_mul_ediv_right _ _ (by omega), Int.add_mul_emod_self_left]
theorem shrI_step {xs zs : List Int} {n q r k : Nat} (h : shrI xs zs n q r k) (hr : r < 32) (hk : k + q < xs.length) (hn : k < n) (hx : Lim xs) :
    shrI xs (zs.set k ((at_ xs (k + q) + at_ xs (k + q + 1) * 4294967296) / 2 ^ r % 4294967296)) n q r (k + 1) := by
  obtain ⟨h1, h2, h3⟩ := h
  have hP := pow2_pos r
  refine ⟨by simpa using h1, h2.set _ (by omega) (by omega), ?_⟩
  rw [take_set _ (by omega), val_snoc, len_take (by omega), h3, B_succ, Int.mul_comm 4294967296, emod_two _ (B_pos k) (by omega)]
  have e : val (xs.drop q) / 2 ^ r / B k % 4294967296 = (at_ xs (k + q) + at_ xs (k + q + 1) * 4294967296) / 2 ^ r % 4294967296 := by
    rw [Int.ediv_ediv_of_nonneg (by omega), Int.mul_comm, ← Int.ediv_ediv_of_nonneg (by have := B_pos k; omega), ← val_drop_div (hx.drop q) (by rw [List.length_drop]; omega), List.drop_drop, show q + k = k + q from by omega, val_drop hk]
    rcases Nat.lt_or_ge (k + q + 1) xs.length with h4 | h4
    · rw [val_drop h4, shr_two hr]
    · rw [List.drop_of_length_le h4, at_ge h4]
      simp [val]
  rw [e]
theorem shrI_end {xs zs : List Int} {n q r : Nat} (h : shrI xs zs n q r n) (hn : xs.length = n + q) (hx : Lim xs) : val zs = val xs / 2 ^ (32 * q + r) := by
  obtain ⟨h1, h2, h3⟩ := h
  rw [← h1, List.take_length, h1] at h3
  have hP := pow2_pos r
  have h4 := val_lt (hx.drop q)
  have h5 := val_nonneg (hx.drop q)
  rw [List.length_drop, hn, Nat.add_sub_cancel] at h4
  have h6 : val (xs.drop q) / 2 ^ r ≤ val (xs.drop q) := Int.ediv_le_self _ h5
  have h7 : 0 ≤ val (xs.drop q) / 2 ^ r := Int.ediv_nonneg h5 (by omega)
  rw [h3, Int.emod_eq_of_lt h7 (by omega), val_drop_div hx (by omega), Int.ediv_ediv_of_nonneg (by have := B_pos q; omega), B_two, Int.pow_add]
  simp
theorem shr_zero {N q r : Nat} (h : lim N ≤ q) : N / 2 ^ (32 * q + r) = 0 := by
  have h1 := lt_B_lim N
  have h2 := B_mono h
  rw [B_two q] at h2
  apply Nat.div_eq_of_lt
  calc N < 2 ^ (32 * q) := by omega
    _ ≤ 2 ^ (32 * q + r) := Nat.pow_le_pow_right (by omega) (by omega)

/-! ### a digit of a quotient -/
/-- q times v is being taken away: i limbs are done. -/
def subI (us0 vs us : List Int) (q : Int) (n i : Nat) (cy bw : Int) : Prop :=
  us.length = n ∧ Lim us ∧ (0 ≤ bw ∧ bw ≤ 1) ∧ (0 ≤ cy ∧ cy < 4294967296) ∧ (∀ k, i ≤ k → at_ us k = at_ us0 k) ∧ val (us.take i) - B i * bw = val (us0.take i) - q * val (vs.take i) + B i * cy
theorem subI.len {us0 vs us : List Int} {q : Int} {n i : Nat} {cy bw : Int} (h : subI us0 vs us q n i cy bw) : us.length = n := h.1
theorem subI.lim {us0 vs us : List Int} {q : Int} {n i : Nat} {cy bw : Int} (h : subI us0 vs us q n i cy bw) : Lim us := h.2.1
theorem subI.bw {us0 vs us : List Int} {q : Int} {n i : Nat} {cy bw : Int} (h : subI us0 vs us q n i cy bw) : 0 ≤ bw ∧ bw ≤ 1 := h.2.2.1
theorem subI.cy {us0 vs us : List Int} {q : Int} {n i : Nat} {cy bw : Int} (h : subI us0 vs us q n i cy bw) : 0 ≤ cy ∧ cy < 4294967296 := h.2.2.2.1
theorem subI.at_ {us0 vs us : List Int} {q : Int} {n i : Nat} {cy bw : Int} (h : subI us0 vs us q n i cy bw) : Mt.at_ us i = Mt.at_ us0 i := h.2.2.2.2.1 i (Nat.le_refl _)
theorem subI_start {us0 vs : List Int} {q : Int} {n : Nat} (hn : us0.length = n) (hl : Lim us0) : subI us0 vs us0 q n 0 0 0 :=
  ⟨hn, hl, by omega, by omega, fun _ _ => rfl, by simp [val]⟩
theorem subI_step {us0 vs us : List Int} {q : Int} {n i : Nat} {cy bw y : Int} (h : subI us0 vs us q n i cy bw) (hi : i < n) (h0 : us0.length = n) (hq0 : 0 ≤ q) (hq1 : q < 4294967296) (hy0 : 0 ≤ y) (hy1 : y < 4294967296)
    (hy : val (vs.take (i + 1)) = val (vs.take i) + B i * y) (p : Int) (hp : p = cy + q * y) (d : Int) (hd : d = (Mt.at_ us0 i - p % 4294967296 - bw) % 18446744073709551616) :
    subI us0 vs (us.set i (d % 4294967296)) q n (i + 1) (p / 4294967296) (d / 9223372036854775808) := by
  obtain ⟨h1, h2, h3, h4, h5, h6⟩ := h
  have bu : 0 ≤ Mt.at_ us0 i ∧ Mt.at_ us0 i < 4294967296 := by rw [← h5 i (Nat.le_refl _)]; exact h2.at_ i
  have hm1 : 0 ≤ q * y := Int.mul_nonneg hq0 hy0
  have hm2 : q * y ≤ 4294967295 * 4294967295 := Int.mul_le_mul (by omega) (by omega) hy0 (by omega)
  refine ⟨by simpa using h1, h2.set _ (by omega) (by omega), by omega, by omega, fun k hk => by rw [at_set_ne _ (by omega)]; exact h5 k (by omega), ?_⟩
  rw [take_set _ (by omega), val_snoc, len_take (by omega), val_take_succ (by omega), hy, B_succ]
  have e1 : d % 4294967296 - 4294967296 * (d / 9223372036854775808) = Mt.at_ us0 i - p % 4294967296 - bw := by omega
  have e2 : p % 4294967296 = cy + q * y - 4294967296 * (p / 4294967296) := by omega
  rw [e2] at e1
  generalize d % 4294967296 = x1 at *
  generalize d / 9223372036854775808 = x2 at *
  generalize p / 4294967296 = x3 at *
  grind
theorem subI_end {us0 vs us : List Int} {q : Int} {n : Nat} {cy bw : Int} (h : subI us0 vs us q n n cy bw) (h0 : us0.length = n) (hv : vs.length ≤ n) (hc : cy = 0) : val us - B n * bw = val us0 - q * val vs := by
  obtain ⟨h1, h2, h3, h4, h5, h6⟩ := h
  rw [← h1, List.take_length, h1, ← h0, List.take_length, h0, List.take_of_length_le hv, hc] at h6
  omega
/-- v is being put back. -/
def putI (us0 vs us : List Int) (n i : Nat) (c : Int) : Prop :=
  us.length = n ∧ Lim us ∧ (0 ≤ c ∧ c ≤ 1) ∧ (∀ k, i ≤ k → at_ us k = at_ us0 k) ∧ val (us.take i) + B i * c = val (us0.take i) + val (vs.take i)
theorem putI.len {us0 vs us : List Int} {n i : Nat} {c : Int} (h : putI us0 vs us n i c) : us.length = n := h.1
theorem putI.lim {us0 vs us : List Int} {n i : Nat} {c : Int} (h : putI us0 vs us n i c) : Lim us := h.2.1
theorem putI.c {us0 vs us : List Int} {n i : Nat} {c : Int} (h : putI us0 vs us n i c) : 0 ≤ c ∧ c ≤ 1 := h.2.2.1
theorem putI.at_ {us0 vs us : List Int} {n i : Nat} {c : Int} (h : putI us0 vs us n i c) : Mt.at_ us i = Mt.at_ us0 i := h.2.2.2.1 i (Nat.le_refl _)
theorem putI_start {us0 vs : List Int} {n : Nat} (hn : us0.length = n) (hl : Lim us0) : putI us0 vs us0 n 0 0 := ⟨hn, hl, by omega, fun _ _ => rfl, by simp [val]⟩
theorem putI_step {us0 vs us : List Int} {n i : Nat} {c y : Int} (h : putI us0 vs us n i c) (hi : i < n) (h0 : us0.length = n) (hy0 : 0 ≤ y) (hy1 : y < 4294967296)
    (hy : val (vs.take (i + 1)) = val (vs.take i) + B i * y) (v : Int) (hv : v = c + Mt.at_ us0 i + y) :
    putI us0 vs (us.set i (v % 4294967296)) n (i + 1) (v / 4294967296) := by
  obtain ⟨h1, h2, h3, h4, h5⟩ := h
  have bu : 0 ≤ Mt.at_ us0 i ∧ Mt.at_ us0 i < 4294967296 := by rw [← h4 i (Nat.le_refl _)]; exact h2.at_ i
  refine ⟨by simpa using h1, h2.set _ (by omega) (by omega), by omega, fun k hk => by rw [at_set_ne _ (by omega)]; exact h4 k (by omega), ?_⟩
  rw [take_set _ (by omega), val_snoc, len_take (by omega), val_take_succ (by omega), hy, B_succ]
  have e1 : v % 4294967296 + 4294967296 * (v / 4294967296) = c + Mt.at_ us0 i + y := by omega
  generalize v % 4294967296 = x1 at *
  generalize v / 4294967296 = x2 at *
  grind
theorem putI_end {us0 vs us : List Int} {n : Nat} {c : Int} (h : putI us0 vs us n n c) (h0 : us0.length = n) (hv : vs.length ≤ n) : val us + B n * c = val us0 + val vs := by
  obtain ⟨h1, h2, h3, h4, h5⟩ := h
  rwa [← h1, List.take_length, h1, ← h0, List.take_length, h0, List.take_of_length_le hv] at h5
/-- The digit that is guessed is not too small; what is left is U - q V, but for a borrow. -/
def digI (us : List Int) (U V : Int) (n : Nat) (q bw : Int) : Prop := us.length = n ∧ Lim us ∧ (0 ≤ bw ∧ bw ≤ 1) ∧ (0 ≤ q ∧ q < 4294967296) ∧ U < (q + 1) * V ∧ val us - B n * bw = U - q * V
theorem digI.len {us : List Int} {U V : Int} {n : Nat} {q bw : Int} (h : digI us U V n q bw) : us.length = n := h.1
theorem digI.lim {us : List Int} {U V : Int} {n : Nat} {q bw : Int} (h : digI us U V n q bw) : Lim us := h.2.1
theorem digI.bw {us : List Int} {U V : Int} {n : Nat} {q bw : Int} (h : digI us U V n q bw) : 0 ≤ bw ∧ bw ≤ 1 := h.2.2.1
theorem digI.q {us : List Int} {U V : Int} {n : Nat} {q bw : Int} (h : digI us U V n q bw) : 0 ≤ q ∧ q < 4294967296 := h.2.2.2.1
theorem digI_pos {us : List Int} {U V : Int} {n : Nat} {q : Int} (h : digI us U V n q 1) (hU : 0 ≤ U) : 1 ≤ q := by
  obtain ⟨h1, h2, h3, h4, h5, h6⟩ := h
  have := val_lt h2
  rw [h1] at this
  rcases Int.lt_or_le q 1 with hq | hq
  · have : q = 0 := by omega
    subst this
    omega
  · exact hq
theorem digI_step {us us' vs : List Int} {U V : Int} {n : Nat} {q c : Int} (h : digI us U V n q 1) (hV : val vs = V) (hU : 0 ≤ U) (h' : putI us vs us' n n c) (hl : vs.length ≤ n) : digI us' U V n (q - 1) (1 - c) := by
  have hp := digI_pos h hU
  obtain ⟨h1, h2, h3, h4, h5, h6⟩ := h
  have he := putI_end h' h1 hl
  have hlt := val_lt h2
  rw [h1] at hlt
  have hc := h'.c
  refine ⟨h'.len, h'.lim, by omega, by omega, ?_, ?_⟩
  · rw [show q - 1 + 1 = q from by omega]; omega
  · rw [hV] at he
    have e1 : (q - 1) * V = q * V - V := by rw [Int.sub_mul]; omega
    have e2 : B n * (1 - c) = B n - B n * c := by rw [Int.mul_sub]; omega
    omega
theorem digI_end {us : List Int} {U V : Int} {n : Nat} {q : Int} (h : digI us U V n q 0) (hV : 0 < V) : q = U / V ∧ val us = U % V := by
  obtain ⟨h1, h2, h3, h4, h5, h6⟩ := h
  have h7 := val_nonneg h2
  have e : q = U / V := by
    apply Int.le_antisymm
    · exact Int.le_ediv_of_mul_le hV (by omega)
    · have := Int.ediv_lt_of_lt_mul hV h5
      omega
  refine ⟨e, ?_⟩
  have := Int.mul_ediv_add_emod U V
  rw [← e, Int.mul_comm] at this
  omega
/-- The lesser, the greater one of two. -/
def mnI (x y : Int) : Int := if y < x then y else x
/-- The guess. -/
theorem guess_ok {us vs : List Int} {m : Nat} (hu : Lim us) (hv : Lim vs) (hul : us.length = m + 2) (hvl : vs.length = m + 1) (hlt : val us < 4294967296 * val vs) (hv1 : 0 < at_ vs m) (q : Int)
    (hq : q = mnI ((at_ us (m + 1) * 4294967296 + at_ us m) / at_ vs m) 4294967295) : 0 ≤ q ∧ q < 4294967296 ∧ val us < (q + 1) * val vs := by
  have b1 := hu.at_ (m + 1)
  have b2 := hu.at_ m
  have b3 := hv.at_ m
  have h0 : 0 ≤ (at_ us (m + 1) * 4294967296 + at_ us m) / at_ vs m := Int.ediv_nonneg (by omega) (by omega)
  unfold mnI at hq
  have hbd : 0 ≤ q ∧ q < 4294967296 := by rw [hq]; split <;> omega
  refine ⟨hbd.1, hbd.2, ?_⟩
  rw [hq]
  split
  · omega
  · have h1 := val_split us (k := m) (by omega)
    rw [val_drop (k := m) (by omega), val_drop (k := m + 1) (by omega), List.drop_of_length_le (i := m + 1 + 1) (by omega), val_nil] at h1
    have h2 := val_split vs (k := m) (by omega)
    rw [val_drop (k := m) (by omega), List.drop_of_length_le (i := m + 1) (by omega), val_nil] at h2
    have h3 := val_lt (hu.take m)
    rw [len_take (by omega)] at h3
    have h4 := val_nonneg (hv.take m)
    simp only [Int.mul_zero, Int.add_zero] at h1 h2
    rw [show at_ us m + 4294967296 * at_ us (m + 1) = at_ us (m + 1) * 4294967296 + at_ us m from by omega] at h1
    generalize at_ us (m + 1) * 4294967296 + at_ us m = t at *
    have h5 := Int.lt_ediv_add_one_mul_self t hv1
    have h6 : B m * (t + 1) ≤ B m * ((t / at_ vs m + 1) * at_ vs m) := Int.mul_le_mul_of_nonneg_left (by omega) (by have := B_pos m; omega)
    have h7 : (t / at_ vs m + 1) * (B m * at_ vs m) ≤ (t / at_ vs m + 1) * val vs := Int.mul_le_mul_of_nonneg_left (by omega) (by omega)
    have e1 : B m * ((t / at_ vs m + 1) * at_ vs m) = (t / at_ vs m + 1) * (B m * at_ vs m) := by grind
    have e2 : B m * (t + 1) = B m * t + B m := by rw [Int.mul_add, Int.mul_one]
    omega

/-! ### long division -/
theorem val_take_mod {xs : List Int} (hl : Lim xs) {k : Nat} (h : k ≤ xs.length) (hv : val xs < B k) : val (xs.take k) = val xs := by
  have h1 := val_split xs h
  have h2 := val_nonneg (hl.drop k)
  have h3 := val_nonneg (hl.take k)
  rcases Int.lt_or_le 0 (val (xs.drop k)) with h4 | h4
  · have h5 : B k * 1 ≤ B k * val (xs.drop k) := Int.mul_le_mul_of_nonneg_left (by omega) (by have := B_pos k; omega)
    omega
  · have h5 : val (xs.drop k) = 0 := by omega
    rw [h5, Int.mul_zero] at h1
    omega
/-- k digits are still to come. -/
def divI (us qs : List Int) (A D : Int) (n m k : Nat) : Prop := us.length = n ∧ qs.length = m ∧ Lim us ∧ Lim qs ∧ val us < D * B k ∧ val us + D * (B k * val (qs.drop k)) = A
theorem divI.ulen {us qs : List Int} {A D : Int} {n m k : Nat} (h : divI us qs A D n m k) : us.length = n := h.1
theorem divI.qlen {us qs : List Int} {A D : Int} {n m k : Nat} (h : divI us qs A D n m k) : qs.length = m := h.2.1
theorem divI.ulim {us qs : List Int} {A D : Int} {n m k : Nat} (h : divI us qs A D n m k) : Lim us := h.2.2.1
theorem divI.qlim {us qs : List Int} {A D : Int} {n m k : Nat} (h : divI us qs A D n m k) : Lim qs := h.2.2.2.1
theorem divI_start {us : List Int} {A D : Int} {n m : Nat} (h1 : us.length = n) (h2 : Lim us) (h3 : val us = A) (h4 : A < D * B m) : divI us (List.replicate m 0) A D n m m :=
  ⟨h1, by simp, h2, Lim.noughts _, by omega, by rw [List.drop_of_length_le (by simp)]; simp [val]; exact h3⟩
/-- The part that a digit is taken from. -/
theorem divI_part {pre sub post qs : List Int} {A D : Int} {n m j lb : Nat} (h : divI (pre ++ sub ++ post) qs A D n m (j + 1)) (hp : pre.length = j) (hs : sub.length = lb + 1) (hD : D < B lb) : val post = 0 ∧ val sub < 4294967296 * D ∧ 0 ≤ val pre ∧ val pre < B j ∧ 0 ≤ val sub := by
  obtain ⟨h1, h2, h3, h4, h5, h6⟩ := h
  have l1 := h3.left.left
  have l2 := h3.left.right
  have l3 := h3.right
  have v1 := val_nonneg l1
  have v2 := val_nonneg l2
  have v3 := val_nonneg l3
  have v4 := val_lt l1
  rw [hp] at v4
  rw [val_append, val_append, List.length_append, hp, hs, B_succ] at h5
  have e0 : val post = 0 := by
    rcases Int.lt_or_le 0 (val post) with h | h
    · exfalso
      have e1 : B (j + (lb + 1)) * 1 ≤ B (j + (lb + 1)) * val post := Int.mul_le_mul_of_nonneg_left (by omega) (by have := B_pos (j + (lb + 1)); omega)
      have e2 : D * (4294967296 * B j) ≤ B lb * (4294967296 * B j) := Int.mul_le_mul_of_nonneg_right (by omega) (by have := B_pos j; omega)
      have e3 : B (j + (lb + 1)) = B lb * (4294967296 * B j) := by rw [B_add, B_succ]; grind
      have e4 := Int.mul_nonneg (show 0 ≤ B j by have := B_pos j; omega) v2
      omega
    · omega
  refine ⟨e0, ?_, v1, v4, v2⟩
  rw [e0, Int.mul_zero, Int.add_zero] at h5
  have e1 : D * (4294967296 * B j) = B j * (4294967296 * D) := by grind
  rw [e1] at h5
  exact Int.lt_of_mul_lt_mul_left (a := B j) (by omega) (by have := B_pos j; omega)
theorem divI_step {pre sub post sub' qs : List Int} {A D : Int} {n m j lb : Nat} (h : divI (pre ++ sub ++ post) qs A D n m (j + 1)) (hp : pre.length = j) (hs : sub.length = lb + 1) (hD : D < B lb) (hD0 : 0 < D) (hj : j < m)
    (hs' : sub'.length = lb + 1) (hl : Lim sub') (hv : val sub' = val sub % D) : divI (pre ++ sub' ++ post) (qs.set j (val sub / D)) A D n m j := by
  obtain ⟨p1, p2, p3, p4, p5⟩ := divI_part h hp hs hD
  obtain ⟨h1, h2, h3, h4, h5, h6⟩ := h
  have q0 : 0 ≤ val sub / D := Int.ediv_nonneg p5 (by omega)
  have q1 : val sub / D < 4294967296 := Int.ediv_lt_of_lt_mul hD0 p2
  have m0 := Int.emod_nonneg (val sub) (show D ≠ 0 by omega)
  have m1 := Int.emod_lt_of_pos (val sub) hD0
  refine ⟨by simp at h1 ⊢; omega, by simpa using h2, (h3.left.left.append hl).append h3.right, h4.set _ q0 q1, ?_, ?_⟩
  · rw [val_append, val_append, p1, hp, Int.mul_zero, Int.add_zero, hv]
    have : B j * (val sub % D + 1) ≤ B j * D := Int.mul_le_mul_of_nonneg_left (by omega) (by have := B_pos j; omega)
    rw [Int.mul_add, Int.mul_one] at this
    rw [Int.mul_comm D]
    omega
  · rw [val_append, val_append, p1, hp, Int.mul_zero, Int.add_zero] at h6 ⊢
    rw [hv, drop_set _ (by omega), val_cons]
    rw [B_succ] at h6
    have e := Int.mul_ediv_add_emod (val sub) D
    generalize val sub / D = q at *
    generalize val sub % D = r at *
    rw [← e] at h6
    grind
theorem divI_end {us qs : List Int} {A D : Int} {n m : Nat} (h : divI us qs A D n m 0) (hD : 0 < D) : val qs = A / D ∧ val us = A % D := by
  obtain ⟨h1, h2, h3, h4, h5, h6⟩ := h
  rw [B_zero, List.drop_zero, Int.one_mul] at h6
  rw [B_zero, Int.mul_one] at h5
  have h7 := val_nonneg h3
  constructor
  · rw [← h6, Int.add_comm, Int.add_comm, Int.add_mul_ediv_left _ _ (by omega), Int.ediv_eq_zero_of_lt h7 h5, Int.zero_add]
  · rw [← h6, Int.add_mul_emod_self_left, Int.emod_eq_of_lt h7 h5]
theorem lim_pos {N k : Nat} (h : lim N = k + 1) : 0 < N := by
  rcases Nat.eq_zero_or_pos N with h0 | h0
  · subst h0; rw [lim_zero] at h; omega
  · exact h0
/-- The divisor's top limb has z leading noughts. -/
theorem norm_fits {N k z : Nat} (h : lim N = k + 1) (hz : z + nbits (at_ (dig N) k).toNat = 32) : lim (N * 2 ^ z) = k + 1 ∧ N * 2 ^ z < 2 ^ (32 * (k + 1)) := by
  obtain ⟨h1, h2⟩ := nbits_top h
  have h3 := lt_nbits N
  have h4 : N * 2 ^ z < 2 ^ (32 * (k + 1)) := by
    have e : 32 * (k + 1) = nbits N + z := by omega
    rw [e, Nat.pow_add]
    exact Nat.mul_lt_mul_of_pos_right h3 (Nat.two_pow_pos z)
  refine ⟨?_, h4⟩
  have h5 : lim (N * 2 ^ z) ≤ k + 1 := lim_le (by rw [B_two]; exact_mod_cast h4)
  have h6 : lim N ≤ lim (N * 2 ^ z) := lim_mono (Nat.le_mul_of_pos_right _ (Nat.two_pow_pos z))
  omega
theorem shl_fits {M k z : Nat} (h : lim M = k) (hz : z < 32) : M * 2 ^ z < 2 ^ (32 * (k + 1)) := by
  have h1 := lt_B_lim M
  rw [h, B_two] at h1
  rw [show 32 * (k + 1) = 32 * k + 32 from by omega, Nat.pow_add]
  have h2 : M < 2 ^ (32 * k) := by omega
  calc M * 2 ^ z ≤ M * 2 ^ 32 := Nat.mul_le_mul_left _ (Nat.pow_le_pow_right (by omega) (by omega))
    _ < 2 ^ (32 * k) * 2 ^ 32 := Nat.mul_lt_mul_of_pos_right h2 (by omega)
theorem div_room {M N la k z : Nat} (h : lim N = k + 1) (ha : lim M = la) (hl : k + 1 ≤ la) : ((M * 2 ^ z : Nat) : Int) < ((N * 2 ^ z : Nat) : Int) * B (la - (k + 1) + 1) := by
  have h1 := lt_B_lim M
  rw [ha] at h1
  have hne : dig N ≠ [] := fun e => by
    have h0 : lim N = 0 := by unfold lim; rw [e]; rfl
    omega
  have h2 := can_ge (dig_lim N) (dig_can N) hne
  rw [dig_val, show (dig N).length = k + 1 from h, Nat.add_sub_cancel] at h2
  have h3 : B k * B (la - (k + 1) + 1) ≤ N * B (la - (k + 1) + 1) := Int.mul_le_mul_of_nonneg_right h2 (by have := B_pos (la - (k + 1) + 1); omega)
  rw [← B_add, show k + (la - (k + 1) + 1) = la from by omega] at h3
  rw [Int.natCast_mul, Int.natCast_mul]
  have hp : (0 : Int) < ((2 ^ z : Nat) : Int) := by exact_mod_cast Nat.two_pow_pos z
  have h4 : (M : Int) * ((2 ^ z : Nat) : Int) < (N * B (la - (k + 1) + 1)) * ((2 ^ z : Nat) : Int) := Int.mul_lt_mul_of_pos_right (by omega) hp
  calc (M : Int) * ((2 ^ z : Nat) : Int) < (N * B (la - (k + 1) + 1)) * ((2 ^ z : Nat) : Int) := h4
    _ = N * ((2 ^ z : Nat) : Int) * B (la - (k + 1) + 1) := by grind
end Mt
end Go.Proofs.YtekghdfbhbhigaaGreat
/- Mathematics of limbs, of whole numbers and of rationals: sums, differences, products, quotients, sizes. -/
set_option linter.unusedVariables false
set_option linter.unusedSimpArgs false
namespace Go.Proofs.YtekghdfbhbhigaaGreat
open Mt Go
namespace Nml
def lessI (xs ys zs : List Int) (k : Nat) (b : Int) : Prop := 0 ≤ b ∧ b ≤ 1 ∧ zs.length = xs.length ∧ Lim zs ∧ val (zs.take k) - B k * b = val (xs.take k) - val (ys.take k)
theorem lessI.lim {xs ys zs : List Int} {k : Nat} {b : Int} (h : lessI xs ys zs k b) : Lim zs := h.2.2.2.1
theorem lessI_start (xs ys : List Int) : lessI xs ys (List.replicate xs.length 0) 0 0 := ⟨by omega, by omega, by simp, Lim.noughts _, by simp [val]⟩
theorem lessI_step {xs ys zs : List Int} {k : Nat} {b y : Int} (h : lessI xs ys zs k b) (hk : k < xs.length) (hx : Lim xs) (hy0 : 0 ≤ y) (hy1 : y < 4294967296)
    (hy : val (ys.take (k + 1)) = val (ys.take k) + B k * y) (v : Int) (hv : v = (at_ xs k - b - y) % 18446744073709551616) :
    lessI xs ys (zs.set k (v % 4294967296)) (k + 1) (v / 9223372036854775808) := by
  obtain ⟨h0, h1, h2, h3, h4⟩ := h
  have hx1 := hx.at_ k
  have e : v % 4294967296 - 4294967296 * (v / 9223372036854775808) = at_ xs k - b - y := by omega
  refine ⟨by omega, by omega, by simpa using h2, h3.set _ (by omega) (by omega), ?_⟩
  rw [take_set _ (by omega), val_snoc, len_take (by omega), val_take_succ hk, hy, B_succ]
  have e2 := congrArg (fun t => B k * t) e
  simp only [Int.mul_sub] at e2
  have e3 : 4294967296 * B k * (v / 9223372036854775808) = B k * (4294967296 * (v / 9223372036854775808)) := by rw [Int.mul_comm 4294967296, Int.mul_assoc]
  omega
theorem lessI_end {xs ys zs : List Int} {b : Int} (h : lessI xs ys zs xs.length b) (hx : Lim xs) (hy : Lim ys) (hl : ys.length ≤ xs.length) (hle : val ys ≤ val xs) : val zs = val xs - val ys := by
  obtain ⟨h0, h1, h2, h3, h4⟩ := h
  rw [← h2, List.take_length, h2, List.take_length, List.take_of_length_le hl] at h4
  have h5 := val_lt h3
  rw [h2] at h5
  have h6 := val_nonneg h3
  have h7 : b = 0 ∨ b = 1 := by omega
  rcases h7 with rfl | rfl
  · omega
  · omega
theorem bitLen_nbits {x : Nat} (h : x < 4294967296) : Lib.bitLen x = nbits x := by
  by_cases h0 : x = 0
  · subst h0; rw [show Lib.bitLen 0 = 0 from Lib.bitLenAux_zero 64]; rfl
  · obtain ⟨h1, h2, h3⟩ := Lib.bitLenAux_bounds 64 x (by omega) h0
    have e : Lib.bitLen x = Lib.bitLenAux 64 x := rfl
    obtain ⟨k, hk⟩ : ∃ k, Lib.bitLenAux 64 x = k + 1 := ⟨Lib.bitLenAux 64 x - 1, by omega⟩
    rw [e, hk]
    rw [hk] at h2 h3
    rw [Nat.add_sub_cancel] at h2
    exact (nbits_eq h2 h3).symm
def addI (xs ys zs : List Int) (m : Nat) (k : Nat) (c : Int) : Prop := 0 ≤ c ∧ c ≤ 1 ∧ zs.length = m ∧ Lim zs ∧ val (zs.take k) + B k * c = val (xs.take k) + val (ys.take k)
theorem addI.lim {xs ys zs : List Int} {m k : Nat} {c : Int} (h : addI xs ys zs m k c) : Lim zs := h.2.2.2.1
theorem addI.len {xs ys zs : List Int} {m k : Nat} {c : Int} (h : addI xs ys zs m k c) : zs.length = m := h.2.2.1
theorem addI.bd {xs ys zs : List Int} {m k : Nat} {c : Int} (h : addI xs ys zs m k c) : 0 ≤ c ∧ c ≤ 1 := ⟨h.1, h.2.1⟩
theorem addI_start (xs ys : List Int) (m : Nat) : addI xs ys (List.replicate m 0) m 0 0 := ⟨by omega, by omega, by simp, Lim.noughts _, by simp [val]⟩
theorem addI_step {xs ys zs : List Int} {m k : Nat} {c y : Int} (h : addI xs ys zs m k c) (hk : k < xs.length) (hm : k < m) (hx : Lim xs) (hy0 : 0 ≤ y) (hy1 : y < 4294967296)
    (hy : val (ys.take (k + 1)) = val (ys.take k) + B k * y) (v : Int) (hv : v = c + at_ xs k + y) :
    addI xs ys (zs.set k (v % 4294967296)) m (k + 1) (v / 4294967296) := by
  obtain ⟨h0, h1, h2, h3, h4⟩ := h
  have hx1 := hx.at_ k
  have e : v % 4294967296 + 4294967296 * (v / 4294967296) = c + at_ xs k + y := by omega
  refine ⟨by omega, by omega, by simpa using h2, h3.set _ (by omega) (by omega), ?_⟩
  rw [take_set _ (by omega), val_snoc, len_take (by omega), val_take_succ hk, hy, B_succ]
  have e2 := congrArg (fun t => B k * t) e
  simp only [Int.mul_add] at e2
  have e3 : 4294967296 * B k * (v / 4294967296) = B k * (4294967296 * (v / 4294967296)) := by rw [Int.mul_comm 4294967296, Int.mul_assoc]
  omega
theorem addI_end {xs ys zs : List Int} {m : Nat} {c : Int} (h : addI xs ys zs m xs.length c) (hm : m = xs.length + 1) (hl : ys.length ≤ xs.length) (v : Int) (hv : v = c) : val (zs.set xs.length v) = val xs + val ys ∧ Lim (zs.set xs.length v) := by
  obtain ⟨h0, h1, h2, h3, h4⟩ := h
  subst hv
  refine ⟨?_, h3.set _ h0 (by omega)⟩
  rw [List.take_length, List.take_of_length_le hl] at h4
  have e := take_set (xs := zs) (k := xs.length) v (by omega)
  rw [List.take_of_length_le (by simp; omega)] at e
  rw [e, val_snoc, len_take (by omega)]
  exact h4
theorem mul_bound {x y c z : Int} (hx0 : 0 ≤ x) (hx1 : x < 4294967296) (hy0 : 0 ≤ y) (hy1 : y < 4294967296) (hc0 : 0 ≤ c) (hc1 : c < 4294967296) (hz0 : 0 ≤ z) (hz1 : z < 4294967296) : 0 ≤ x * y ∧ c + (x * y + z) < 18446744073709551616 := by
  have h1 : 0 ≤ x * y := Int.mul_nonneg hx0 hy0
  have h2 : x * y ≤ 4294967295 * 4294967295 := Int.mul_le_mul (by omega) (by omega) hy0 (by omega)
  omega
def mulI (ys zs : List Int) (n i : Nat) (tot x : Int) (j : Nat) (c : Int) : Prop := 0 ≤ c ∧ c < 4294967296 ∧ zs.length = n ∧ Lim zs ∧ (∀ k, i + ys.length ≤ k → at_ zs k = 0) ∧ val zs + B (i + j) * c = tot + B i * (x * val (ys.take j))
theorem mulI.lim {ys zs : List Int} {n i : Nat} {tot x : Int} {j : Nat} {c : Int} (h : mulI ys zs n i tot x j c) : Lim zs := h.2.2.2.1
theorem mulI.len {ys zs : List Int} {n i : Nat} {tot x : Int} {j : Nat} {c : Int} (h : mulI ys zs n i tot x j c) : zs.length = n := h.2.2.1
theorem mulI.bd {ys zs : List Int} {n i : Nat} {tot x : Int} {j : Nat} {c : Int} (h : mulI ys zs n i tot x j c) : 0 ≤ c ∧ c < 4294967296 := ⟨h.1, h.2.1⟩
theorem mulI_step {ys zs : List Int} {n i : Nat} {tot x : Int} {j : Nat} {c : Int} (h : mulI ys zs n i tot x j c) (hn : n = i + ys.length ∨ i + ys.length < n) (hj : j < ys.length) (hx0 : 0 ≤ x) (hx1 : x < 4294967296) (hy : Lim ys) (v : Int) (hv : v = c + (x * at_ ys j + at_ zs (i + j))) :
    mulI ys (zs.set (i + j) (v % 4294967296)) n i tot x (j + 1) (v / 4294967296) := by
  obtain ⟨h0, h1, h2, h3, h4, h5⟩ := h
  have hb := hy.at_ j
  have hz := h3.at_ (i + j)
  have hm := mul_bound hx0 hx1 hb.1 hb.2 h0 h1 hz.1 hz.2
  refine ⟨by omega, by omega, by simpa using h2, h3.set _ (by omega) (by omega), fun k hk => by rw [at_set_ne _ (by omega)]; exact h4 k hk, ?_⟩
  rw [val_set _ (by omega), val_take_succ hj, show i + (j + 1) = (i + j) + 1 from by omega, B_succ]
  have e : v % 4294967296 + 4294967296 * (v / 4294967296) - at_ zs (i + j) = c + x * at_ ys j := by omega
  have e2 := congrArg (fun t => B (i + j) * t) e
  simp only [Int.mul_add, Int.mul_sub] at e2
  rw [Int.mul_sub]
  have e3 : 4294967296 * B (i + j) * (v / 4294967296) = B (i + j) * (4294967296 * (v / 4294967296)) := by rw [Int.mul_comm 4294967296, Int.mul_assoc]
  have e4 : B i * (x * (val (ys.take j) + B j * at_ ys j)) = B i * (x * val (ys.take j)) + B (i + j) * (x * at_ ys j) := by
    rw [B_add]; grind
  omega
def mulO (xs ys zs : List Int) (n i : Nat) : Prop := zs.length = n ∧ Lim zs ∧ (∀ k, i + ys.length ≤ k → at_ zs k = 0) ∧ val zs = val (xs.take i) * val ys
theorem mulO.len {xs ys zs : List Int} {n i : Nat} (h : mulO xs ys zs n i) : zs.length = n := h.1
theorem mulO_start (xs ys : List Int) (n : Nat) : mulO xs ys (List.replicate n 0) n 0 := ⟨by simp, Lim.noughts _, fun k _ => by
  unfold at_; rw [List.getD_eq_getElem?_getD, List.getElem?_replicate]; split <;> rfl, by rw [val_noughts]; simp [val]⟩
theorem mulI_start {xs ys zs : List Int} {n i : Nat} (h : mulO xs ys zs n i) : mulI ys zs n i (val (xs.take i) * val ys) (at_ xs i) 0 0 := by
  obtain ⟨h1, h2, h3, h4⟩ := h
  exact ⟨by omega, by omega, h1, h2, h3, by rw [h4]; simp [val]⟩
theorem mulO_step {xs ys zs : List Int} {n i : Nat} {c : Int} (h : mulI ys zs n i (val (xs.take i) * val ys) (at_ xs i) ys.length c) (hi : i < xs.length) (hn : i + ys.length < n) : mulO xs ys (zs.set (i + ys.length) c) n (i + 1) := by
  obtain ⟨h0, h1, h2, h3, h4, h5⟩ := h
  refine ⟨by simpa using h2, h3.set _ h0 h1, fun k hk => by rw [at_set_ne _ (by omega)]; exact h4 k (by omega), ?_⟩
  rw [val_set _ (by omega), h4 _ (Nat.le_refl _), Int.sub_zero, val_take_succ hi, h5, List.take_length]
  grind
theorem mulO_end {xs ys zs : List Int} {n : Nat} (h : mulO xs ys zs n xs.length) : val zs = val xs * val ys ∧ Lim zs := by
  obtain ⟨h1, h2, h3, h4⟩ := h
  rw [List.take_length] at h4
  exact ⟨h4, h2⟩
def intv (s : Bool) (N : Nat) : Int := if s then -(N : Int) else N
def zl (z : Int) : Nat := lim z.natAbs
theorem intv_natAbs (s : Bool) (N : Nat) : (intv s N).natAbs = N := by unfold intv; split <;> omega
theorem intv_sgn (s : Bool) {N : Nat} (h : N ≠ 0) : s = decide (intv s N < 0) := by unfold intv; cases s <;> simp <;> omega
def sg (z : Int) : Int := sgnc z 0
theorem sg_zero : sg 0 = 0 := sgnc_eq rfl
theorem sg_pos {z : Int} (h : 0 < z) : sg z = 1 := sgnc_gt h
theorem sg_neg {z : Int} (h : z < 0) : sg z = -1 := sgnc_lt h
theorem sg_eq_zero {z : Int} : sg z = 0 ↔ z = 0 := by unfold sg sgnc; split <;> (try split) <;> omega
theorem intv_mul (s t : Bool) (M N : Nat) : intv s M * intv t N = intv (!(s == t)) (M * N) := by
  unfold intv; cases s <;> cases t <;> simp <;> grind
theorem intv_add (s : Bool) (M N : Nat) : intv s M + intv s N = intv s (M + N) := by unfold intv; cases s <;> simp <;> omega
theorem sg_intv (s : Bool) (N : Nat) : sg (intv s N) = if N = 0 then 0 else if s then -1 else 1 := by
  unfold sg sgnc intv; cases s <;> simp <;> (try split) <;> (try split) <;> omega
theorem sg_bd (z : Int) : -1 ≤ sg z ∧ sg z ≤ 1 := by unfold sg sgnc; split <;> (try split) <;> omega
theorem sgnc_bd (x y : Int) : -1 ≤ sgnc x y ∧ sgnc x y ≤ 1 := by unfold sgnc; split <;> (try split) <;> omega
theorem cmp_lt {x y : Int} (h : sg x < sg y) : sgnc x y = -1 := by
  have : x < y := by unfold sg sgnc at h; split at h <;> (try split at h) <;> (try split at h) <;> (try split at h) <;> omega
  exact sgnc_lt this
theorem cmp_gt {x y : Int} (h : sg y < sg x) : sgnc x y = 1 := by
  have : y < x := by unfold sg sgnc at h; split at h <;> (try split at h) <;> (try split at h) <;> (try split at h) <;> omega
  exact sgnc_gt this
theorem cmp_same {x y : Int} (h1 : ¬ sg x < sg y) (h2 : ¬ sg y < sg x) : sg x * sgnc (x.natAbs : Int) (y.natAbs : Int) = sgnc x y := by
  have h : (0 < x ∧ 0 < y) ∨ (x < 0 ∧ y < 0) ∨ (x = 0 ∧ y = 0) := by
    unfold sg sgnc at h1 h2; split at h1 <;> (try split at h1) <;> (try split at h1) <;> (try split at h1) <;> (try split at h2) <;> (try split at h2) <;> omega
  rcases h with ⟨a, b⟩ | ⟨a, b⟩ | ⟨a, b⟩
  · rw [sg_pos a, Int.one_mul]; unfold sgnc; split <;> split <;> (try split) <;> (try split) <;> omega
  · rw [sg_neg a]; unfold sgnc; split <;> (try split) <;> (try split) <;> (try split) <;> omega
  · subst a; subst b; rfl
theorem zl_one : zl 1 ≤ 1 := lim_le (by decide)
theorem floor_no (s1 s2 : Bool) (M N : Nat) (hN : 0 < N) (h : ¬ (intv s1 (M % N) ≠ 0 ∧ sg (intv s1 (M % N)) ≠ sg (intv s2 N))) :
    Int.fdiv (intv s1 M) (intv s2 N) = intv (!(s1 == s2)) (M / N) ∧ Int.fmod (intv s1 M) (intv s2 N) = intv s1 (M % N) := by
  have e := Nat.div_add_mod M N
  have l := Nat.mod_lt M hN
  have ee : intv s1 (M % N) + intv s2 N * intv (!(s1 == s2)) (M / N) = intv s1 M := by
    rw [intv_mul]
    have : (!(s2 == !(s1 == s2))) = s1 := by cases s1 <;> cases s2 <;> rfl
    rw [this, intv_add, Nat.add_comm, e]
  rw [sg_intv, sg_intv] at h
  generalize M % N = r at *
  generalize M / N = q at *
  cases s2
  · refine (Int.fdiv_fmod_unique (by simp [intv]; omega)).2 ⟨ee, ?_⟩
    cases s1 <;> simp [intv] at h ⊢ <;> omega
  · refine (Int.fdiv_fmod_unique' (by simp [intv]; omega)).2 ⟨ee, ?_⟩
    cases s1 <;> simp [intv] at h ⊢ <;> omega
theorem floor_yes (s1 s2 : Bool) (M N : Nat) (hN : 0 < N) (h : intv s1 (M % N) ≠ 0 ∧ sg (intv s1 (M % N)) ≠ sg (intv s2 N)) :
    Int.fdiv (intv s1 M) (intv s2 N) = intv (!(s1 == s2)) (M / N) - 1 ∧ Int.fmod (intv s1 M) (intv s2 N) = intv s1 (M % N) + intv s2 N := by
  have e := Nat.div_add_mod M N
  have l := Nat.mod_lt M hN
  have ee : intv s1 (M % N) + intv s2 N * intv (!(s1 == s2)) (M / N) = intv s1 M := by
    rw [intv_mul]
    have : (!(s2 == !(s1 == s2))) = s1 := by cases s1 <;> cases s2 <;> rfl
    rw [this, intv_add, Nat.add_comm, e]
  have ef : (intv s1 (M % N) + intv s2 N) + intv s2 N * (intv (!(s1 == s2)) (M / N) - 1) = intv s1 M := by rw [Int.mul_sub, Int.mul_one]; omega
  rw [sg_intv, sg_intv] at h
  generalize M % N = r at *
  generalize M / N = q at *
  cases s2
  · refine (Int.fdiv_fmod_unique (by simp [intv]; omega)).2 ⟨ef, ?_⟩
    cases s1 <;> simp [intv] at h ⊢ <;> omega
  · refine (Int.fdiv_fmod_unique' (by simp [intv]; omega)).2 ⟨ef, ?_⟩
    cases s1 <;> simp [intv] at h ⊢ <;> omega
end Nml
namespace Mt
open Nml
theorem drop_val (a : List Int) (i : Nat) : val (a.drop i) = at_ a i + 4294967296 * val (a.drop (i + 1)) := by
  by_cases h : i < a.length
  · exact val_drop h
  · rw [List.drop_eq_nil_of_le (by omega), List.drop_eq_nil_of_le (by omega), at_ge (by omega)]; simp [val]
theorem take_val (a : List Int) (i : Nat) : val (a.take (i + 1)) = val (a.take i) + B i * at_ a i := by
  by_cases h : i < a.length
  · exact val_take_succ h
  · rw [List.take_of_length_le (by omega), List.take_of_length_le (by omega), at_ge (by omega)]; simp
theorem split_val (a : List Int) (i : Nat) : val a = val (a.take i) + B i * val (a.drop i) := by
  by_cases h : i ≤ a.length
  · exact val_split a h
  · rw [List.take_of_length_le (by omega), List.drop_eq_nil_of_le (by omega)]; simp [val]
theorem take_lt {a : List Int} (h : Lim a) (i : Nat) : 0 ≤ val (a.take i) ∧ val (a.take i) < B i := by
  have h1 := val_nonneg (h.take i)
  have h2 := val_lt (h.take i)
  have h3 : B (a.take i).length ≤ B i := B_mono (by rw [List.length_take]; omega)
  omega
theorem lt_split {a b : List Int} (ha : Lim a) (hb : Lim b) (i : Nat) (h : val (a.drop i) < val (b.drop i)) : val a < val b := by
  have h1 := split_val a i
  have h2 := split_val b i
  have h3 := take_lt ha i
  have h4 := take_lt hb i
  have h5 := Int.mul_le_mul_of_nonneg_left (show val (a.drop i) + 1 ≤ val (b.drop i) by omega) (Int.le_of_lt (B_pos i))
  rw [Int.mul_add, Int.mul_one] at h5
  omega
theorem cmp_lt {a b : List Int} (ha : Lim a) (hb : Lim b) {m : Nat} (h : val (a.drop (m + 1)) = val (b.drop (m + 1))) (hx : at_ a m < at_ b m) : val a < val b := lt_split ha hb m (by rw [drop_val, drop_val b, h]; omega)
theorem cmp_eq {a b : List Int} {m : Nat} (h : val (a.drop (m + 1)) = val (b.drop (m + 1))) (h1 : ¬ at_ a m < at_ b m) (h2 : ¬ at_ b m < at_ a m) : val (a.drop m) = val (b.drop m) := by rw [drop_val, drop_val b, h]; omega
def sumI (xs ys zs : List Int) (k : Nat) (c : Int) : Prop := 0 ≤ c ∧ c ≤ 1 ∧ zs.length = k ∧ Lim zs ∧ val zs + B k * c = val (xs.take k) + val (ys.take k)
theorem sumI_start (xs ys : List Int) : sumI xs ys [] 0 0 := ⟨by omega, by omega, rfl, Lim.nil, by simp [val]⟩
theorem sumI_step {xs ys zs : List Int} {k : Nat} {c : Int} (h : sumI xs ys zs k c) (hx : Lim xs) (hy : Lim ys) : sumI xs ys (zs ++ [(c + at_ xs k + at_ ys k) % 4294967296]) (k + 1) ((c + at_ xs k + at_ ys k) / 4294967296) := by
  obtain ⟨h0, h1, h2, h3, h4⟩ := h
  have hx1 := hx.at_ k
  have hy1 := hy.at_ k
  refine ⟨by omega, by omega, by simp [h2], h3.append (Lim.one (by omega) (by omega)), ?_⟩
  rw [val_snoc, h2, take_val, take_val, B_succ]
  have e : (c + at_ xs k + at_ ys k) % 4294967296 + 4294967296 * ((c + at_ xs k + at_ ys k) / 4294967296) = c + at_ xs k + at_ ys k := by omega
  have e2 := congrArg (fun t => B k * t) e
  simp only [Int.mul_add] at e2
  have e3 : 4294967296 * B k * ((c + at_ xs k + at_ ys k) / 4294967296) = B k * (4294967296 * ((c + at_ xs k + at_ ys k) / 4294967296)) := by rw [Int.mul_comm 4294967296, Int.mul_assoc]
  omega
theorem sumI_end {xs ys zs : List Int} {k : Nat} {c : Int} (h : sumI xs ys zs k c) (hx : xs.length ≤ k) (hy : ys.length ≤ k) : val (zs ++ [c]) = val xs + val ys ∧ Lim (zs ++ [c]) := by
  obtain ⟨h0, h1, h2, h3, h4⟩ := h
  rw [List.take_of_length_le hx, List.take_of_length_le hy] at h4
  exact ⟨by rw [val_snoc, h2]; exact h4, h3.append (Lim.one (by omega) (by omega))⟩
def difI (xs ys zs : List Int) (k : Nat) (c : Int) : Prop := 0 ≤ c ∧ c ≤ 1 ∧ zs.length = k ∧ Lim zs ∧ val zs - B k * c = val (xs.take k) - val (ys.take k)
theorem difI_start (xs ys : List Int) : difI xs ys [] 0 0 := ⟨by omega, by omega, rfl, Lim.nil, by simp [val]⟩
theorem difI_step {xs ys zs : List Int} {k : Nat} {c : Int} (h : difI xs ys zs k c) (hx : Lim xs) (hy : Lim ys) (v b : Int) (hv : v - 4294967296 * b = at_ xs k - (at_ ys k + c)) (hb0 : 0 ≤ b) (hb1 : b ≤ 1) (h0 : 0 ≤ v) (h1 : v ≤ 4294967295) : difI xs ys (zs ++ [v]) (k + 1) b := by
  obtain ⟨h0', h1', h2, h3, h4⟩ := h
  refine ⟨hb0, hb1, by simp [h2], h3.append (Lim.one h0 (by omega)), ?_⟩
  rw [val_snoc, h2, take_val, take_val, B_succ]
  have e2 := congrArg (fun t => B k * t) hv
  simp only [Int.mul_sub, Int.mul_add] at e2
  have e3 : 4294967296 * B k * b = B k * (4294967296 * b) := by rw [Int.mul_comm 4294967296, Int.mul_assoc]
  omega
theorem difI_end {xs ys zs : List Int} {k : Nat} {c : Int} (h : difI xs ys zs k c) (hx : xs.length ≤ k) (hxl : Lim xs) (hyl : Lim ys) (hle : val ys ≤ val xs) : val zs = val xs - val ys := by
  obtain ⟨h0, h1, h2, h3, h4⟩ := h
  rw [List.take_of_length_le hx] at h4
  have s1 := split_val ys k
  have s2 := take_lt hyl k
  have s3 := val_lt h3
  rw [h2] at s3
  have s4 := val_nonneg (hyl.drop k)
  have s5 := val_nonneg h3
  have s8 := val_lt hxl
  have s9 : B xs.length ≤ B k := B_mono hx
  have s6 : val (ys.drop k) = 0 := by
    rcases Int.lt_trichotomy (val (ys.drop k)) 0 with q | q | q
    · omega
    · exact q
    · have := Int.mul_le_mul_of_nonneg_left (show 1 ≤ val (ys.drop k) by omega) (Int.le_of_lt (B_pos k)); omega
  rw [s6] at s1
  rcases (show c = 0 ∨ c = 1 by omega) with q | q <;> subst q <;> omega
def mulI (xs ys zs : List Int) (i j : Nat) (c : Int) : Prop := 0 ≤ c ∧ c < 4294967296 ∧ zs.length = xs.length + ys.length ∧ Lim zs ∧ (∀ q, i + ys.length ≤ q → at_ zs q = 0) ∧ val zs + B (i + j) * c = val (xs.take i) * val ys + B i * (at_ xs i * val (ys.take j))
def mulO (xs ys zs : List Int) (i : Nat) : Prop := zs.length = xs.length + ys.length ∧ Lim zs ∧ (∀ q, i + ys.length ≤ q → at_ zs q = 0) ∧ val zs = val (xs.take i) * val ys
theorem mulO_start (xs ys : List Int) : mulO xs ys (List.replicate (xs.length + ys.length) 0) 0 := ⟨by simp, Lim.noughts _, fun q _ => at_noughts _ _, by rw [val_noughts]; simp [val]⟩
theorem mulI_start {xs ys zs : List Int} {i : Nat} (h : mulO xs ys zs i) : mulI xs ys zs i 0 0 := ⟨by omega, by omega, h.1, h.2.1, h.2.2.1, by rw [h.2.2.2]; simp [val]⟩
theorem mul_bd {x y : Int} (hx0 : 0 ≤ x) (hx1 : x < 4294967296) (hy0 : 0 ≤ y) (hy1 : y < 4294967296) : 0 ≤ x * y ∧ x * y ≤ 18446744065119617025 :=
  ⟨Int.mul_nonneg hx0 hy0, by have := Int.mul_le_mul (show x ≤ 4294967295 by omega) (show y ≤ 4294967295 by omega) hy0 (by omega); omega⟩
theorem mulI_step {xs ys zs : List Int} {i j : Nat} {c s : Int} (h : mulI xs ys zs i j c) (hi : i < xs.length) (hj : j < ys.length) (hx : Lim xs) (hy : Lim ys) (hs : s = c + at_ zs (i + j) + at_ xs i * at_ ys j) : mulI xs ys (zs.set (i + j) (s % 4294967296)) i (j + 1) (s / 4294967296) := by
  obtain ⟨h0, h1, ho, hl, hz, hv⟩ := h
  have l1 := hx.at_ i
  have l2 := hy.at_ j
  have l3 := hl.at_ (i + j)
  have m := mul_bd l1.1 l1.2 l2.1 l2.2
  have hlt : i + j < zs.length := by omega
  have m0 : 0 ≤ s % 4294967296 ∧ s % 4294967296 < 4294967296 ∧ 0 ≤ s / 4294967296 ∧ s / 4294967296 < 4294967296 := by omega
  refine ⟨m0.2.2.1, m0.2.2.2, by rw [List.length_set]; exact ho, hl.set _ m0.1 m0.2.1, fun q hq => ?_, ?_⟩
  · rw [at_set_ne _ (by omega)]; exact hz q hq
  · rw [val_set _ hlt, take_val, show i + (j + 1) = i + j + 1 by omega, B_succ]
    have e : s % 4294967296 - at_ zs (i + j) + 4294967296 * (s / 4294967296) = c + at_ xs i * at_ ys j := by omega
    have e1 := congrArg (fun t => B (i + j) * t) e
    simp only [Int.mul_add] at e1
    have e3 : 4294967296 * B (i + j) * (s / 4294967296) = B (i + j) * (4294967296 * (s / 4294967296)) := by rw [Int.mul_comm 4294967296, Int.mul_assoc]
    have e2 : B i * (at_ xs i * (val (ys.take j) + B j * at_ ys j)) = B i * (at_ xs i * val (ys.take j)) + B (i + j) * (at_ xs i * at_ ys j) := by
      rw [B_add, Int.mul_add, Int.mul_add, Int.mul_left_comm (at_ xs i) (B j), Int.mul_assoc]
    rw [e2]
    omega
theorem mulI_end {xs ys zs : List Int} {i : Nat} {c : Int} (h : mulI xs ys zs i ys.length c) (hi : i < xs.length) : mulO xs ys (zs.set (i + ys.length) c) (i + 1) := by
  obtain ⟨h0, h1, ho, hl, hz, hv⟩ := h
  have hlt : i + ys.length < zs.length := by omega
  refine ⟨by rw [List.length_set]; exact ho, hl.set _ h0 h1, fun q hq => ?_, ?_⟩
  · rw [at_set_ne _ (by omega)]; exact hz q (by omega)
  · rw [val_set _ hlt, hz _ (Nat.le_refl _), Int.sub_zero, take_val, Int.add_mul, Int.mul_assoc, hv, List.take_length]
theorem mulO_end {xs ys zs : List Int} {i : Nat} (h : mulO xs ys zs i) (hi : xs.length ≤ i) : val zs = val xs * val ys := by rw [h.2.2.2, List.take_of_length_le hi]
theorem at_pad (l : List Int) (n j : Nat) : at_ (l ++ List.replicate n 0) j = at_ l j := by
  by_cases h : j < l.length
  · unfold at_; rw [List.getD_eq_getElem?_getD, List.getD_eq_getElem?_getD, List.getElem?_append_left h]
  · rw [at_ge (xs := l) (by omega)]
    unfold at_; rw [List.getD_eq_getElem?_getD, List.getElem?_append_right (by omega)]
    have := at_noughts n (j - l.length)
    unfold at_ at this; rw [List.getD_eq_getElem?_getD] at this
    exact this
theorem val_pad (l : List Int) (n : Nat) : val (l ++ List.replicate n 0) = val l := by rw [val_append, val_noughts, Int.mul_zero, Int.add_zero]
theorem guess_up (rest v : List Int) (hr : Lim rest) (hv : Lim v) (m : Nat) (hvl : v.length = m + 1) (hrl : rest.length ≤ m + 2) (hlt : val rest < 4294967296 * val v) (hv1 : 0 < at_ v m) (hV : 0 < val v) :
    ∃ c Q : Nat, val rest / val v = Q ∧ Q + c < 4294967296 ∧ mnI ((at_ rest (m + 1) * 4294967296 + at_ rest m) / at_ v m) 4294967295 = ((Q + c : Nat) : Int) := by
  have h := guess_ok (us := rest ++ List.replicate (m + 2 - rest.length) 0) (vs := v) (m := m) (hr.append (Lim.noughts _)) hv (by rw [List.length_append, List.length_replicate]; omega) hvl (by rw [val_pad]; exact hlt) hv1 _ rfl
  rw [at_pad, at_pad, val_pad] at h
  obtain ⟨g0, g1, g2⟩ := h
  generalize mnI ((at_ rest (m + 1) * 4294967296 + at_ rest m) / at_ v m) 4294967295 = g at *
  have q0 : 0 ≤ val rest / val v := Int.ediv_nonneg (val_nonneg hr) (by omega)
  have q1 : val rest / val v < g + 1 := Int.ediv_lt_of_lt_mul hV g2
  exact ⟨(g - val rest / val v).toNat, (val rest / val v).toNat, by omega, by omega, by omega⟩
theorem pw_lt {r : Nat} (h : r < 32) : 0 < (2 : Int) ^ r ∧ (2 : Int) ^ r < 4294967296 := by
  have h1 : 0 < (2 : Int) ^ r := Int.pow_pos (by decide)
  have h2 : (2 : Nat) ^ r < 2 ^ 32 := Nat.pow_lt_pow_right (by omega) h
  have h3 : ((2 ^ r : Nat) : Int) = (2 : Int) ^ r := by simp
  omega
theorem two_lim (n : Nat) : Lim (List.replicate (n / 32) 0 ++ [(2 : Int) ^ (n % 32)]) := (Lim.noughts _).append (Lim.one (by have := pw_lt (show n % 32 < 32 by omega); omega) (by have := pw_lt (show n % 32 < 32 by omega); omega))
theorem two_val (n : Nat) : val (List.replicate (n / 32) 0 ++ [(2 : Int) ^ (n % 32)]) = ((2 ^ n : Nat) : Int) := by
  rw [val_snoc, val_noughts, List.length_replicate, Int.zero_add, B_two]
  have : (2 : Nat) ^ n = 2 ^ (32 * (n / 32)) * 2 ^ (n % 32) := by rw [← Nat.pow_add]; congr 1; omega
  rw [this]; simp
theorem shr_m1 (l out : List Int) (h : Lim l) (q r k0 : Nat) (x : Int) (hr : r < 32) (hi : k0 + q < l.length) (ho : out.length = k0) (hl : Lim out) (hx : x = at_ l (k0 + q) + at_ l (k0 + q + 1) * 4294967296) (hv : val out = val (l.drop q) / 2 ^ r % B k0) :
    Lim (out ++ [x / 2 ^ r % 4294967296]) ∧ val (out ++ [x / 2 ^ r % 4294967296]) = val (l.drop q) / 2 ^ r % B (k0 + 1) := by
  have hs0 : shrI l (out ++ [0]) (k0 + 1) q r k0 := ⟨by rw [List.length_append, List.length_singleton, ho], hl.append (Lim.one (Int.le_refl _) (by decide)), by rw [List.take_append_of_le_length (Nat.le_of_eq ho.symm), List.take_of_length_le (Nat.le_of_eq ho)]; exact hv⟩
  have hs1 := shrI_step hs0 hr hi (Nat.lt_succ_self _) h
  rw [← hx] at hs1
  have hset : (out ++ [0]).set k0 (x / 2 ^ r % 4294967296) = out ++ [x / 2 ^ r % 4294967296] := by rw [← ho, List.set_append_right _ _ (Nat.le_refl _), Nat.sub_self]; rfl
  rw [hset] at hs1
  refine ⟨hs1.lim, ?_⟩
  have hv1 := hs1.2.2
  rw [List.take_of_length_le (by rw [List.length_append, List.length_singleton, ho]; exact Nat.le_refl _)] at hv1
  exact hv1
theorem nbits_half {w : Nat} (h : 0 < w) : nbits w = nbits (w / 2) + 1 := by
  by_cases h0 : w / 2 = 0
  · rw [show w = 1 by omega]; rfl
  · have h1 := pow_le_nbits h0
    have h2 := lt_nbits (w / 2)
    have h3 : 1 ≤ nbits (w / 2) := by unfold nbits; rw [if_neg h0]; omega
    obtain ⟨m, hm⟩ : ∃ m, nbits (w / 2) = m + 1 := ⟨nbits (w / 2) - 1, by omega⟩
    rw [hm] at h1 h2 ⊢
    rw [Nat.add_sub_cancel] at h1
    exact nbits_eq (by rw [Nat.pow_succ]; omega) (by rw [Nat.pow_succ]; omega)
theorem bits_of {l : List Int} (h : Lim l) {m : Nat} (hm : m < l.length) (ht : tl l (m + 1) = tl l l.length) (h0 : at_ l m ≠ 0) {N : Nat} (hN : val l = N) : nbits N = 32 * m + nbits (at_ l m).toNat := by
  have e : l.take (tl l l.length) = dig N := dig_of (h.take _) (tl_can (Nat.le_refl _)) (by rw [tl_val (Nat.le_refl _), List.take_length]; exact hN)
  rw [← ht, show tl l (m + 1) = m + 1 by simp [tl, h0]] at e
  have hl : lim N = m + 1 := by unfold lim; rw [← e, List.length_take]; omega
  have ha : at_ (dig N) m = at_ l m := by
    rw [← e]
    unfold at_
    rw [List.getD_eq_getElem?_getD, List.getD_eq_getElem?_getD, List.getElem?_take_of_lt (by omega)]
  have hb := (nbits_top hl).1
  rwa [ha] at hb
theorem bits_zero {l : List Int} (h : Lim l) (ht : 0 = tl l l.length) {N : Nat} (hN : val l = N) : N = 0 := by
  have e : l.take (tl l l.length) = dig N := dig_of (h.take _) (tl_can (Nat.le_refl _)) (by rw [tl_val (Nat.le_refl _), List.take_length]; exact hN)
  rw [← ht] at e
  have h2 := dig_val N
  rw [← e] at h2
  simp [val] at h2
  omega
theorem two_dig (n : Nat) : List.replicate (n / 32) 0 ++ [(2 : Int) ^ (n % 32)] = dig (2 ^ n) := dig_of (two_lim n) (by unfold Can; simp; have := pw_lt (show n % 32 < 32 by omega); omega) (two_val n)
theorem shr_end {l out : List Int} (h : Lim l) {n k : Nat} (hl : Lim out) (ho : out.length = k) (hk : l.length = k + n / 32) (hv : val out = val (l.drop (n / 32)) / 2 ^ (n % 32) % B k) : val out = val l / 2 ^ n := by
  have hsh : shrI l out k (n / 32) (n % 32) k := ⟨ho, hl, by rw [List.take_of_length_le (by omega)]; exact hv⟩
  have he := shrI_end hsh hk h
  rwa [show 32 * (n / 32) + n % 32 = n by omega] at he
theorem two_limb (n : Nat) : lim (2 ^ n) ≤ n / 32 + 1 := by unfold lim; rw [← two_dig]; simp
theorem nbits_len {l : List Int} (h : Lim l) {N : Nat} (hN : val l = N) : nbits N ≤ 32 * l.length := nbits_le (by have := val_lt h; rw [hN, B_two] at this; exact Int.ofNat_lt.1 this)
theorem div_zero_of {M n : Nat} (h : nbits M ≤ n) : M / 2 ^ n = 0 := Nat.div_eq_of_lt (Nat.lt_of_lt_of_le (lt_nbits M) (Nat.pow_le_pow_right (by omega) h))
theorem lim_ps {N : Nat} (h : 0 < N) : 0 < lim N := by
  rcases Nat.eq_zero_or_pos (lim N) with h0 | h0
  · have := lt_B_lim N; rw [h0, B_zero] at this; omega
  · exact h0
theorem at_one {N : Nat} (h : lim N = 1) : at_ (dig N) 0 = N := by
  have := dig_val N
  obtain ⟨x, hx⟩ := List.length_eq_one_iff.1 (show (dig N).length = 1 from h)
  rw [hx] at this ⊢
  simp [val] at this
  simpa [at_] using this
def dvI (us qs : List Int) (V k R : Nat) : Prop := qs.length = us.length ∧ Lim qs ∧ (∀ j, j < k → at_ qs j = 0) ∧ val (us.drop k) = V * val (qs.drop k) + R ∧ R < V
theorem dvI_start (us : List Int) {V : Nat} (h : 0 < V) : dvI us (List.replicate us.length 0) V us.length 0 := ⟨by simp, Lim.noughts _, fun j _ => at_noughts _ _, by simp [val], h⟩
def nextR (us : List Int) (m R : Nat) : Nat := (at_ us m).toNat + 4294967296 * R
theorem nextR_val {us : List Int} (h : Lim us) (m R : Nat) : ((nextR us m R : Nat) : Int) = at_ us m + 4294967296 * R := by have := h.at_ m; unfold nextR; omega
theorem nextR_lt {us qs : List Int} {V m R : Nat} (h : dvI us qs V (m + 1) R) (hl : Lim us) : nextR us m R < 4294967296 * V := by have := hl.at_ m; have := h.2.2.2.2; unfold nextR; omega
theorem dvI_skip {us qs : List Int} {V m R : Nat} (h : dvI us qs V (m + 1) R) (hm : m < us.length) (hl : Lim us) (hlt : nextR us m R < V) : dvI us qs V m (nextR us m R) := by
  obtain ⟨h1, h2, h3, h4, h5⟩ := h
  refine ⟨h1, h2, fun j hj => h3 j (by omega), ?_, hlt⟩
  rw [drop_val us, drop_val qs, h3 m (by omega), h4, nextR_val hl, Int.zero_add, Int.mul_add, Int.mul_left_comm (V : Int)]
  omega
theorem dvI_put {us qs : List Int} {V m R : Nat} (h : dvI us qs V (m + 1) R) (hm : m < us.length) (hl : Lim us) (hV : 0 < V) : dvI us (qs.set m ((nextR us m R / V : Nat) : Int)) V m (nextR us m R % V) := by
  have hlt := nextR_lt h hl
  obtain ⟨h1, h2, h3, h4, h5⟩ := h
  have hd : nextR us m R / V < 4294967296 := Nat.div_lt_of_lt_mul (by rw [Nat.mul_comm]; exact hlt)
  refine ⟨by rw [List.length_set]; exact h1, h2.set _ (Int.natCast_nonneg _) (Int.ofNat_lt.2 hd), fun j hj => by rw [at_set_ne _ (by omega)]; exact h3 j (by omega), ?_, Nat.mod_lt _ hV⟩
  rw [drop_val us, drop_set _ (by omega), val_cons, h4]
  have e := Nat.div_add_mod (nextR us m R) V
  have e2 : ((V * (nextR us m R / V) + nextR us m R % V : Nat) : Int) = at_ us m + 4294967296 * R := by rw [e]; exact nextR_val hl m R
  rw [Int.natCast_add, Int.natCast_mul] at e2
  rw [Int.mul_add, Int.mul_add, Int.mul_left_comm (V : Int)]
  omega
theorem dvI_end {us qs : List Int} {V R U : Nat} (h : dvI us qs V 0 R) (hU : val us = U) : val qs = ((U / V : Nat) : Int) ∧ R = U % V := by
  obtain ⟨h1, h2, h3, h4, h5⟩ := h
  rw [List.drop_zero, List.drop_zero, hU] at h4
  have p := val_nonneg h2
  obtain ⟨q, hq⟩ : ∃ q : Nat, val qs = q := ⟨(val qs).toNat, by omega⟩
  rw [hq] at h4 ⊢
  have h6 : U = V * q + R := by exact_mod_cast h4
  have hV : 0 < V := by omega
  have h7 : U / V = q := by rw [h6, Nat.mul_add_div hV, Nat.div_eq_of_lt h5, Nat.add_zero]
  have h8 : U % V = R := by rw [h6, Nat.mul_add_mod, Nat.mod_eq_of_lt h5]
  exact ⟨by rw [h7], h8.symm⟩
theorem top_set {N s : Nat} (hN : 0 < N) (hs : s = 32 * lim N - nbits N) : lim (N * 2 ^ s) = lim N ∧ 2147483648 ≤ at_ (dig (N * 2 ^ s)) (lim N - 1) := by
  have hl := lim_ps hN
  obtain ⟨k, hk⟩ : ∃ k, lim N = k + 1 := ⟨lim N - 1, by omega⟩
  have hb := (nbits_top hk).1
  have h1 : nbits (at_ (dig N) k).toNat ≤ 32 := nbits_le (by have := (dig_lim N).at_ k; omega)
  have h2 := (nbits_top hk).2
  have h3 := (dig_lim N).at_ k
  have h4 : 1 ≤ nbits (at_ (dig N) k).toNat := by unfold nbits; rw [if_neg (by omega)]; omega
  have hn0 : N ≠ 0 := by omega
  have h5 := pow_le_nbits hn0
  have h6 := lt_nbits N
  have e : s + nbits N = 32 * (k + 1) := by omega
  have p1 : 2 ^ (32 * (k + 1) - 1) ≤ N * 2 ^ s := by
    have := Nat.mul_le_mul_right (2 ^ s) h5
    rwa [← Nat.pow_add, show nbits N - 1 + s = 32 * (k + 1) - 1 by omega] at this
  have p2 : N * 2 ^ s < 2 ^ (32 * (k + 1)) := by
    have := Nat.mul_lt_mul_of_pos_right h6 (show 0 < 2 ^ s from Nat.pow_pos (by omega))
    rwa [← Nat.pow_add, show nbits N + s = 32 * (k + 1) by omega] at this
  have q1 : lim (N * 2 ^ s) ≤ k + 1 := lim_le (by rw [B_two]; exact Int.ofNat_lt.2 p2)
  have q2 : k + 1 ≤ lim (N * 2 ^ s) := by
    apply Nat.le_of_not_lt
    intro hlt
    have h7 := lt_B_lim (N * 2 ^ s)
    have h8 := B_mono (show lim (N * 2 ^ s) ≤ k by omega)
    rw [B_two k] at h8
    have h9 : N * 2 ^ s < 2 ^ (32 * k) := Int.ofNat_lt.1 (Int.lt_of_lt_of_le h7 h8)
    have h10 : 2 ^ (32 * k) ≤ 2 ^ (32 * (k + 1) - 1) := Nat.pow_le_pow_right (by omega) (by omega)
    omega
  have q : lim (N * 2 ^ s) = k + 1 := by omega
  refine ⟨by rw [q, hk], ?_⟩
  rw [hk, Nat.add_sub_cancel]
  have ht := (nbits_top q).1
  have hn : nbits (N * 2 ^ s) = 32 * (k + 1) := by
    have := nbits_eq (n := N * 2 ^ s) (k := 32 * (k + 1) - 1) p1 (by rw [show 32 * (k + 1) - 1 + 1 = 32 * (k + 1) by omega]; exact p2)
    omega
  have h11 := (dig_lim (N * 2 ^ s)).at_ k
  have h12 : nbits (at_ (dig (N * 2 ^ s)) k).toNat = 32 := by omega
  have h13 : (at_ (dig (N * 2 ^ s)) k).toNat ≠ 0 := fun h => by rw [h] at h12; simp [nbits] at h12
  have h14 := pow_le_nbits h13
  rw [h12] at h14
  have : (2 : Nat) ^ (32 - 1) = 2147483648 := by decide
  omega
theorem lim_next {R V n : Nat} (h : R < 4294967296 * V) (hV : lim V ≤ n) : lim R ≤ n + 1 := lim_le (by
  have h1 := lt_B_lim V
  have h2 := B_mono hV
  rw [B_succ]
  omega)
theorem guess_nat {R V m : Nat} (hl : lim V = m + 1) (ht : 2147483648 ≤ at_ (dig V) m) (h : R < 4294967296 * V) : ∃ c, R / V + c < 4294967296 ∧ mnI ((at_ (dig R) (m + 1) * 4294967296 + at_ (dig R) m) / at_ (dig V) m) 4294967295 = ((R / V + c : Nat) : Int) := by
  have hV : 0 < V := by
    rcases Nat.eq_zero_or_pos V with h0 | h0
    · subst h0; rw [lim_zero] at hl; omega
    · exact h0
  obtain ⟨c, Q, h1, h2, h3⟩ := guess_up (dig R) (dig V) (dig_lim _) (dig_lim _) m hl (lim_next h (Nat.le_of_eq hl)) (by rw [dig_val, dig_val]; omega) (by omega) (by rw [dig_val]; omega)
  rw [dig_val, dig_val] at h1
  have h4 : R / V = Q := by exact_mod_cast h1
  exact ⟨c, by omega, by rw [h3, h4]⟩
theorem div_shift (M N s : Nat) (hN : 0 < N) : M * 2 ^ s / (N * 2 ^ s) = M / N ∧ M * 2 ^ s % (N * 2 ^ s) / 2 ^ s = M % N := by
  have h2 : 0 < 2 ^ s := Nat.pow_pos (by omega)
  refine ⟨Nat.mul_div_mul_right _ _ h2, ?_⟩
  rw [Nat.mul_mod_mul_right, Nat.mul_div_cancel _ h2]
theorem lim_small {N : Nat} (h : N < 4294967296) : lim N ≤ 1 := lim_le (by rw [B_succ, B_zero]; omega)
theorem sgnc_neg {a b : Nat} (h : sgnc a b < 0) : a < b := by
  rcases Nat.lt_trichotomy a b with h1 | h1 | h1
  · exact h1
  · rw [sgnc_eq (by omega)] at h; omega
  · rw [sgnc_gt (by omega)] at h; omega
theorem sgnc_not {a b : Nat} (h : a ≤ b) : ¬ 0 < sgnc a b := by
  rcases Nat.lt_or_eq_of_le h with h1 | h1
  · rw [sgnc_lt (by omega)]; omega
  · rw [sgnc_eq (by omega)]; omega
theorem sgnc_yes {a b : Nat} (h : b < a) : 0 < sgnc a b := by rw [sgnc_gt (by omega)]; omega
theorem nextR_lim {us : List Int} (h : Lim us) (m R : Nat) : Lim (at_ us m :: dig R) := Lim.cons (h.at_ m).1 (h.at_ m).2 (dig_lim R)
theorem nextR_is {us : List Int} (h : Lim us) (m R : Nat) : val (at_ us m :: dig R) = ((nextR us m R : Nat) : Int) := by rw [val_cons, dig_val, nextR_val h]
theorem dvI_put' {us qs : List Int} {V m R Q p : Nat} (h : dvI us qs V (m + 1) R) (hm : m < us.length) (hl : Lim us) (hV : 0 < V) (hQ : Q = nextR us m R / V) (hp : p = V * Q) : dvI us (qs.set m (Q : Int)) V m (nextR us m R - p) := by
  have h1 := dvI_put h hm hl hV
  rw [← hQ] at h1
  have h2 := Nat.div_add_mod (nextR us m R) V
  rw [← hQ, ← hp] at h2
  rwa [show nextR us m R - p = nextR us m R % V by omega]
theorem mul_pred {V Q e p : Nat} (h : p = V * (Q + (e + 1))) : V ≤ p ∧ p - V = V * (Q + e) := by
  have : V * (Q + (e + 1)) = V * (Q + e) + V := by rw [← Nat.add_assoc, Nat.mul_succ]
  omega
theorem mn_small {x c : Int} {k : Int} (h : mnI x k = c) (hx : x ≤ k) : x = c := by unfold mnI at h; split at h <;> omega
theorem mn_big {x c : Int} {k : Int} (h : mnI x k = c) (hx : k < x) : k = c := by unfold mnI at h; split at h <;> omega
theorem lt_mul_next {V Q e n : Nat} (hV : 0 < V) (hQ : Q = n / V) : n < V * (Q + (e + 1)) := by
  have h1 : n < V * (Q + 1) := by rw [hQ]; exact Nat.lt_mul_div_succ n hV
  exact Nat.lt_of_lt_of_le h1 (Nat.mul_le_mul_left V (by omega))
theorem lim_gcd {M N a b : Nat} (ha : lim M ≤ a) (hb : lim N ≤ b) : lim (Nat.gcd M N) ≤ max a b := by
  rcases Nat.eq_zero_or_pos M with h | h
  · rw [h, Nat.gcd_zero_left]; omega
  · exact Nat.le_trans (lim_mono (Nat.gcd_le_left N h)) (by omega)
theorem lim_add2 {M N a b : Nat} (h : lim M ≤ a) (h' : lim N ≤ b) : lim (M + N) ≤ a + b + 1 := lim_add (Nat.le_trans h (Nat.le_add_right _ _)) (Nat.le_trans h' (Nat.le_add_left _ _))
theorem zl_mul {a b : Int} {k l : Nat} (h : zl a ≤ k) (h' : zl b ≤ l) : zl (a * b) ≤ k + l := by unfold zl at *; rw [Int.natAbs_mul]; exact Nat.le_trans (lim_mul _ _) (Nat.add_le_add h h')
theorem zl_add {a b : Int} {k l : Nat} (h : zl a ≤ k) (h' : zl b ≤ l) : zl (a + b) ≤ k + l + 1 := by unfold zl at *; exact Nat.le_trans (lim_mono (Int.natAbs_add_le _ _)) (lim_add2 h h')
theorem zl_neg {a : Int} {k : Nat} (h : zl a ≤ k) : zl (-a) ≤ k := by unfold zl at *; rwa [Int.natAbs_neg]
theorem zl_of {n : Int} (h0 : -9223372036854775808 ≤ n) (h1 : n < 9223372036854775808) : zl n ≤ 2 := by unfold zl; exact lim_le (by rw [B_succ, B_succ, B_zero]; omega)
def QB (q : Rat) (b : Nat) : Prop := zl q.num ≤ b ∧ zl (q.den : Int) ≤ b
theorem zl_div {x : Int} (y : Int) {k : Nat} (h : zl x ≤ k) : zl (x / y) ≤ k := Nat.le_trans (lim_mono (Int.natAbs_ediv_le_natAbs x y)) h
theorem rat_made {x y : Int} (h : 0 < y) : ((x : Rat) / y).num = x / ((Int.gcd x y : Nat) : Int) ∧ (((x : Rat) / y).den : Int) = y / ((Int.gcd x y : Nat) : Int) := by
  rw [← Rat.divInt_eq_div, Rat.num_divInt, Rat.den_divInt]
  rw [Int.gcd_comm y x, Int.sign_eq_one_of_pos h, Int.one_mul, if_neg (by omega)]
  refine ⟨rfl, ?_⟩
  rw [Int.natCast_ediv, Int.natAbs_of_nonneg (by omega)]
theorem rat_neg (x y : Int) : ((-x : Int) : Rat) / ((-y : Int) : Rat) = (x : Rat) / y := by
  rw [← Rat.divInt_eq_div, ← Rat.divInt_eq_div, Rat.neg_divInt_neg]
theorem qb_div {x y : Int} {k l : Nat} (hx : zl x ≤ k) (hy : zl y ≤ l) (h0 : y ≠ 0) : QB ((x : Rat) / y) (max k l) := by
  rcases Int.lt_or_gt_of_ne h0 with h | h
  · have := rat_made (x := -x) (y := -y) (by omega)
    rw [rat_neg] at this
    unfold QB
    rw [this.1, this.2]
    exact ⟨Nat.le_trans (zl_div _ (zl_neg hx)) (Nat.le_max_left _ _), Nat.le_trans (zl_div _ (zl_neg hy)) (Nat.le_max_right _ _)⟩
  · have := rat_made (x := x) h
    unfold QB
    rw [this.1, this.2]
    exact ⟨Nat.le_trans (zl_div _ hx) (Nat.le_max_left _ _), Nat.le_trans (zl_div _ hy) (Nat.le_max_right _ _)⟩
theorem gcd_nz {x y : Int} (h : y ≠ 0) : ((Int.gcd x y : Nat) : Int) ≠ 0 := by
  have : Int.gcd x y ≠ 0 := fun e => h (Int.gcd_eq_zero_iff.1 e).2
  omega
theorem rat_whole (x : Int) : ((x : Rat)).num = x ∧ (((x : Rat)).den : Int) = 1 := ⟨Rat.num_intCast x, by rw [Rat.den_intCast]; rfl⟩
end Mt
end Go.Proofs.YtekghdfbhbhigaaGreat
/- A logic of calls: whole numbers and rationals as values. -/
set_option linter.unusedVariables false
set_option linter.unusedSimpArgs false
namespace Go.Proofs.YtekghdfbhbhigaaGreat.V
open Go.RowKit Mt Nml

/-- One of these things. -/
def T.ex {ι : Type} (m : Nat) (b : Bool) (p : ι → Prop) (X : ι → T) (h0 : ∀ i, (X i).ns = [] ∧ (X i).sz = m ∧ (X i).ag = b) : T := ⟨[], m, b, fun β u v => ∃ i, p i ∧ (X i).rep β u v, fun ⟨i, _, h⟩ hn => by
    have := (X i).shp h (by rw [(h0 i).2.1]; exact hn)
    rw [(h0 i).2.1, (h0 i).2.2] at this
    exact this, fun hs ⟨i, hp, h⟩ => ⟨i, hp, (X i).mono hs h⟩, fun hn ⟨i, hp, h⟩ => ⟨i, hp, (X i).ext (fun e he => by rw [(h0 i).1] at he; cases he) h⟩⟩
section
variable {P : Program} {Q : Exit → Act → World → Prop} {n : Nat} {c : Ctx} {g : List (Nat × T)} {E : List (Nat × Option Ent)} {x : Code} {ι : Type} {m : Nat} {b : Bool} {p : ι → Prop} {X : ι → T} {h0 : ∀ i, (X i).ns = [] ∧ (X i).sz = m ∧ (X i).ag = b}
/-- It is laid open. -/
theorem tri_ex (t : Nat) (ht : lk g t = some (T.ex m b p X h0)) (h : ∀ i, p i → Tri P x Q c n ((t, X i) :: g) E) : Tri P x Q c n g E := fun a w hS => by
  obtain ⟨β, u, F, h1, h2, h3, h4, h5, h6, h7⟩ := hS
  obtain ⟨v, k1, i, k2, k3⟩ := h3 t _ ht
  refine h i k2 a w ⟨β, u, F, h1, h2, fun t' Y hY => ?_, h4, h5, h6, h7⟩
  rw [lk_cons] at hY
  split at hY
  · rename_i e; subst e; cases hY; exact ⟨v, k1, k3⟩
  · exact h3 t' Y hY
/-- A slot is told otherwise. -/
theorem tri_as (t : Nat) {Y Z : T} (ht : lk g t = some Y) (hl : Y.le Z) (h : Tri P x Q c n ((t, Z) :: g) E) : Tri P x Q c n g E := fun a w hS => by
  obtain ⟨β, u, F, h1, h2, h3, h4, h5, h6, h7⟩ := hS
  obtain ⟨v, k1, k2⟩ := h3 t _ ht
  refine h a w ⟨β, u, F, h1, h2, fun t' Y' hY => ?_, h4, h5, h6, h7⟩
  rw [lk_cons] at hY
  split at hY
  · rename_i e; subst e; cases hY; exact ⟨v, k1, hl _ _ _ k2⟩
  · exact h3 t' Y' hY
end
/-- A function whose argument is one of these things. -/
theorem fn_ex {P : Program} {f : FuncId} {ι : Type} {m : Nat} {b : Bool} {p : ι → Prop} {X : ι → T} {h0 : ∀ i, (X i).ns = [] ∧ (X i).sz = m ∧ (X i).ag = b} {As Bs : List T} {Ei Eo : List (Nat × Ent)} {N : List Nat} {R : T} (h : ∀ i, p i → Fn P f (As ++ X i :: Bs) Ei Eo N R) : Fn P f (As ++ T.ex m b p X h0 :: Bs) Ei Eo N R := fun vs β u w F hs hr hH => by
  have key : ∀ (As : List T) (vs : List Value), Reps β u (As ++ T.ex m b p X h0 :: Bs) vs → ∃ i, p i ∧ Reps β u (As ++ X i :: Bs) vs := by
    intro As
    induction As with
    | nil => intro vs h; cases vs with
      | nil => exact h.elim
      | cons v s => obtain ⟨⟨i, k1, k2⟩, k3⟩ := h; exact ⟨i, k1, k2, k3⟩
    | cons Y r ih => intro vs h; cases vs with
      | nil => exact h.elim
      | cons v s => obtain ⟨i, k1, k2⟩ := ih s h.2; exact ⟨i, k1, h.1, k2⟩
  obtain ⟨i, hi, hr'⟩ := key As vs hr
  exact h i hi vs β u w F hs hr' hH
theorem fn_le {P : Program} {f : FuncId} {As Bs : List T} {Ei Eo : List (Nat × Ent)} {N : List Nat} {R : T} (h : Fn P f Bs Ei Eo N R) (hl : LeL As Bs) : Fn P f As Ei Eo N R := fun vs β u w F hs hr hH => h vs β u w F hs (hr.le hl) hH
theorem fn_out {P : Program} {f : FuncId} {As : List T} {Ei Eo : List (Nat × Ent)} {N : List Nat} {R S : T} (h : Fn P f As Ei Eo N R) (hl : R.le S) : Fn P f As Ei Eo N S := fun vs β u w F hs hr hH => (h vs β u w F hs hr hH).mono fun e w' ⟨v, he, u', β', F', h1, h2, h3, h4, h5⟩ => ⟨v, he, u', β', F', h1, h2, h3, h4, hl _ _ _ h5⟩

/-! ### limbs and whole numbers -/
def cU : Cod Int := ⟨fun a => T.c (.int .u32 a), 1, 0, fun _ => rfl, fun _ => rfl, by decide⟩
def iv (s : Bool) (N : Int) : Int := if s then -N else N
/-- Limbs that say N, at most k; in one form. -/
def T.L (N : Nat) (k : Nat) : T := T.ex 1 false (fun xs : List Int => Lim xs ∧ val xs = N ∧ xs.length ≤ k) (fun xs => T.l cU xs) (fun _ => ⟨rfl, rfl, rfl⟩)
/-- A whole number of at most k limbs; in one form. -/
def T.Zi (z : Int) (k : Nat) : T := T.ex 2 true (fun i : Bool × List Int => Lim i.2 ∧ z = iv i.1 (val i.2) ∧ i.2.length ≤ k) (fun i => T.st [T.c (.bool i.1), T.l cU i.2]) (fun _ => ⟨rfl, rfl, rfl⟩)
def T.Z (z : Int) (k : Nat) : T := T.ex 2 true (fun _ : Unit => zl z ≤ k) (fun _ => T.st [T.c (.bool (decide (z < 0))), T.l cU (dig z.natAbs)]) (fun _ => ⟨rfl, rfl, rfl⟩)
abbrev T.Q (q : Rat) (k : Nat) : T := T.st [T.Z q.num k, T.Z (q.den : Int) k]
theorem iv_natAbs (z : Int) : iv (decide (z < 0)) (val (dig z.natAbs)) = z := by
  unfold iv
  rw [dig_val]
  by_cases h : z < 0 <;> simp [h] <;> omega
theorem ex_le {ι κ : Type} {m : Nat} {b : Bool} {p : ι → Prop} {X : ι → T} {q : κ → Prop} {Y : κ → T} {h0 h1} (f : ι → κ) (h : ∀ i, p i → q (f i) ∧ (X i).le (Y (f i))) : (T.ex m b p X h0).le (T.ex m b q Y h1) := fun β u v ⟨i, k1, k2⟩ => ⟨f i, (h i k1).1, (h i k1).2 _ _ _ k2⟩
theorem in_ex {κ : Type} {m : Nat} {b : Bool} {q : κ → Prop} {Y : κ → T} {h1} (i : κ) (h : q i) : (Y i).le (T.ex m b q Y h1) := fun β u v k => ⟨i, h, k⟩
theorem z_zi (z : Int) (k : Nat) : (T.Z z k).le (T.Zi z k) := ex_le (fun _ => (decide (z < 0), dig z.natAbs)) fun _ h => ⟨⟨dig_lim _, (iv_natAbs z).symm, h⟩, .refl _⟩
theorem zi_mono {z : Int} {k k' : Nat} (h : k ≤ k') : (T.Zi z k).le (T.Zi z k') := ex_le id fun i ⟨h1, h2, h3⟩ => ⟨⟨h1, h2, Nat.le_trans h3 h⟩, .refl _⟩
theorem z_mono {z : Int} {k k' : Nat} (h : k ≤ k') : (T.Z z k).le (T.Z z k') := ex_le id fun i h1 => ⟨Nat.le_trans h1 h, .refl _⟩
theorem T.le.trans {X Y Z : T} (h : X.le Y) (k : Y.le Z) : X.le Z := fun β u v hv => k _ _ _ (h _ _ _ hv)
theorem cells_le {β : Env} {u : World} : ∀ {l l' : List T} {cs : List Value}, Cells β u l cs → LeL l l' → (l.map (·.sz) = l'.map (·.sz)) → Cells β u l' cs
  | [], [], _, h, _, _ => h
  | X :: r, Y :: s, cs, ⟨v, rest, h0, h1, e, h2⟩, ⟨k1, k2⟩, hz => by
    simp only [List.map_cons, List.cons.injEq] at hz
    exact ⟨v, rest, by rw [← hz.1]; exact h0, k1 _ _ _ h1, e, cells_le h2 k2 hz.2⟩
  | [], _ :: _, _, _, k, _ => k.elim
  | _ :: _, [], _, _, k, _ => k.elim
theorem st_le {l l' : List T} (h : LeL l l') (hz : l.map (·.sz) = l'.map (·.sz) := by rfl) : (T.st l).le (T.st l') := fun β u v ⟨cs, e, hc⟩ => ⟨cs, e, cells_le hc h hz⟩
theorem c_st {zs : List Value} (h : zs.all Value.oneCell' = true := by rfl) : (T.c (.agg zs.toArray)).le (T.st (zs.map T.c)) := fun β u v hv => ⟨zs, hv, cells_c h⟩
/-- A whole number, however it is told. -/
class IsZ (X : T) (z : outParam Int) (k : outParam Nat) : Prop where
  le : X.le (T.Zi z k)
  sz : X.sz = 2
instance (z : Int) (k : Nat) : IsZ (T.Zi z k) z k := ⟨.refl _, rfl⟩
instance (z : Int) (k : Nat) : IsZ (T.Z z k) z k := ⟨z_zi z k, rfl⟩
theorem nil_st : (T.st [T.c (.bool false), T.c (.slice none 0 0)]).le (T.st [T.c (.bool false), T.l cU []]) := st_le (l := [T.c (.bool false), T.c (.slice none 0 0)]) (l' := [T.c (.bool false), T.l cU []]) ⟨.refl _, nil_l cU, trivial⟩
theorem zi_of {s : Bool} {xs : List Int} {z : Int} {k : Nat} (h1 : Lim xs) (h2 : z = iv s (val xs)) (h3 : xs.length ≤ k) : (T.st [T.c (.bool s), T.l cU xs]).le (T.Zi z k) := fun β u v h => ⟨(s, xs), ⟨h1, h2, h3⟩, h⟩
theorem z_of {s : Bool} {z : Int} {k : Nat} (h1 : s = decide (z < 0)) (h2 : zl z ≤ k) : (T.st [T.c (.bool s), T.l cU (dig z.natAbs)]).le (T.Z z k) := fun β u v h => ⟨(), h2, by subst h1; exact h⟩
instance : IsZ (T.st [T.c (.bool false), T.c (.slice none 0 0)]) 0 0 := ⟨nil_st.trans (zi_of Lim.nil rfl (Nat.le_refl _)), rfl⟩
theorem c_st2 (a b : Value) (h : [a, b].all Value.oneCell' = true) : (T.c (.agg #[a, b])).le (T.st [T.c a, T.c b]) := c_st h
instance : IsZ (T.c (.agg #[.bool false, .slice none 0 0])) 0 0 := ⟨(c_st2 _ _ rfl).trans (IsZ.le (X := T.st [T.c (.bool false), T.c (.slice none 0 0)])), rfl⟩
instance (z : Int) (k : Nat) : Sp (T.Z z k) [T.c (.bool (decide (z < 0))), T.l cU (dig z.natAbs)] := ⟨fun β u v ⟨_, _, h⟩ => h⟩
instance : Sp (T.c (.agg #[.bool false, .slice none 0 0])) [T.c (.bool false), T.c (.slice none 0 0)] := ⟨c_st2 _ _ rfl⟩
/-- Limbs, however they are told. -/
class IsL2 (X : T) (N : outParam Nat) (k : outParam Nat) : Prop where le : X.le (T.L N k)
instance (N k : Nat) : IsL2 (T.L N k) N k := ⟨.refl _⟩
theorem l_L {xs : List Int} {N k : Nat} (h1 : Lim xs) (h2 : val xs = N) (h3 : xs.length ≤ k) : (T.l cU xs).le (T.L N k) := in_ex xs ⟨h1, h2, h3⟩
instance (N : Nat) : IsL2 (T.l cU (dig N)) N (lim N) := ⟨l_L (dig_lim N) (dig_val N) (Nat.le_refl _)⟩
instance : IsL2 (T.c (.slice none 0 0)) 0 0 := ⟨(nil_l cU).trans (l_L Lim.nil rfl (Nat.le_refl _))⟩
/-! kinds of elements -/
def cZi (k : Nat) : Cod Int := ⟨fun z => T.Zi z k, 2, 0, fun _ => rfl, fun _ => rfl, by decide⟩
def cZ (k : Nat) : Cod Int := ⟨fun z => T.Z z k, 2, 0, fun _ => rfl, fun _ => rfl, by decide⟩
def cQi (k : Nat) : Cod (Int × Int) := ⟨fun q => T.st [T.Zi q.1 k, T.Zi q.2 k], 4, (0, 0), fun _ => rfl, fun _ => rfl, by decide⟩
def cQ (k : Nat) : Cod Rat := ⟨fun q => T.Q q k, 4, 0, fun _ => rfl, fun _ => rfl, by decide⟩
def cL {α : Type} (c : Cod α) : Cod (List α) := ⟨fun l => T.l c l, 1, [], fun _ => rfl, fun _ => rfl, by decide⟩
class CodLe {α : Type} (c d : Cod α) : Prop where le : ∀ a, (c.X a).le (d.X a)
theorem els_le {α : Type} {c d : Cod α} (h : ∀ a, (c.X a).le (d.X a)) {u : World} : ∀ {l : List α} {cs : List Value}, Els c l u cs → Els d l u cs
  | [], _, hc => hc
  | a :: l, cs, ⟨v, rest, h0, h1, e, h2⟩ => ⟨v, rest, by rw [d.sz0]; exact d.pos, h a _ _ _ h1, e, els_le h h2⟩
theorem tl_le {α : Type} {c d : Cod α} (h : ∀ a, (c.X a).le (d.X a)) (l : List α) : (T.l c l).le (T.l d l) := fun β u v ⟨A, n, k, e, h1, h2, h3, h4⟩ => ⟨A, n, k, e, h1, h2, h3, fun hp => by
  obtain ⟨ad, ea, xs, h5, h6⟩ := h4 hp
  exact ⟨ad, ea, xs, els_le h h5, h6⟩⟩
instance (k : Nat) : CodLe (cZ k) (cZi k) := ⟨fun z => z_zi z k⟩
instance {α : Type} (c d : Cod α) [h : CodLe c d] : CodLe (cL c) (cL d) := ⟨fun l => tl_le h.le l⟩
instance (priority := low) {α : Type} (c d : Cod α) (l : List α) [h : CodLe c d] : IsL (T.l c l) d l := ⟨tl_le h.le l⟩
/-- Data of rows. -/
abbrev T.G (D : List Int) (L : List (List Int)) (k : Nat) : T := T.st [T.l (cZi k) D, T.l (cL (cZi k)) L]
/-- A rational, however it is told. -/
theorem q_le (A B : T) {a b : Int} {k l : Nat} [ha : IsZ A a k] [hb : IsZ B b l] : (T.st [A, B]).le (T.st [T.Zi a k, T.Zi b l]) := st_le (l := [A, B]) (l' := [T.Zi a k, T.Zi b l]) ⟨ha.le, hb.le, trivial⟩ (by simp only [List.map_cons, List.map_nil, ha.sz, hb.sz]; rfl)
end Go.Proofs.YtekghdfbhbhigaaGreat.V
/- A logic of calls: boxes of structs, calls with what arguments are told to be, slices cut and copied, more of the machine's numbers. -/
set_option linter.unusedVariables false
set_option linter.unusedSimpArgs false
namespace Go.Proofs.YtekghdfbhbhigaaGreat.V
open Go.RowKit Mt Nml

def putL (l : List T) (off : Nat) (ys : List T) : Option (List T) := match takeC l off, skip l (off + szs ys) with
  | some a, some b => some (a ++ (ys ++ b))
  | _, _ => none
theorem Cells.append {β : Env} {u : World} : ∀ {l l' : List T} {cs cs' : List Value}, Cells β u l cs → Cells β u l' cs' → Cells β u (l ++ l') (cs ++ cs')
  | [], l', cs, cs', h, k => by rw [show cs = [] from h]; exact k
  | X :: r, l', cs, cs', ⟨v, rest, h0, h1, e, h2⟩, k => ⟨v, rest ++ cs', h0, h1, by rw [e, List.append_assoc], Cells.append h2 k⟩
section
variable {P : Program} {ops : Array Oper} {fin : List OpS → List (Nat × T) → List (Nat × Option Ent) → Prop} {r : List Oper} {H : List OpS} {g : List (Nat × T)} {E : List (Nat × Option Ent)} {o : Oper}
variable {t : Option Nat} {ty : TypeId} {ps : String} {af : Array Edge} {gd : Option (Nat × Bool)} {x y : Operand} {X Y : T} {e off m : Nat} {b : Bool} {l l' : List T} {et : TypeId}
variable {α : Type} {c : Cod α} {xs ys : List α}
/-- A box with a struct, laid open. -/
theorem bxs (e : Nat) [hsp : Sp X l] (hX : envl g x = some X) (hn : J P ops fin r (⟨[], [], [(e, Ent.box et l)], [e], T.p e 0⟩ :: H) (putg t (T.p e 0) g) ((e, some (Ent.box et l)) :: E)) (he : (l.flatMap (·.ns)).contains e = false := by rfl) (hg : GuardIs ops g ⟨t, .box et x, ty, ps, af, gd⟩ true := by exact gd0) : J P ops fin (⟨t, .box et x, ty, ps, af, gd⟩ :: r) H g E :=
  j_new hg (fun ρ β u w F hs hx hH => by
    obtain ⟨cs, h1, h2⟩ := hsp.le _ _ _ (hx x (by simp [Op.operands]) X hX)
    have := after_box (C := []) (F := F) (e := e) (ty := et) hs h2 he
    unfold Res
    have hb : (Instr.box et (ρ x)).run P w = .ok (pt w.heap.size 0) (w.alloc (.cells cs.toArray et (0, 0))) := by simp [Instr.box, newVar, newRow, h1, Value.cells]
    simp only [execOp, Sem.run_bind, hb, Result.andThen_ok, Sem.run_pure]
    exact this) hn
/-- A store of a struct into a box, laid open. -/
theorem sts {zz : List T} [hsp : Sp Y zz] (hX : envl g x = some (T.p e off)) (hY : envl g y = some Y) (hE : lkE E e = some (Ent.box et l)) {ty' : TypeId} (hT : Ty P ty' true m) (hl : putL l off zz = some l') (hn : J P ops fin r (⟨[], [e], [(e, Ent.box et l')], [], T.c undef⟩ :: H) (putg t (T.c undef) g) ((e, some (Ent.box et l')) :: E)) (hm : szs zz = m := by rfl) (hg : GuardIs ops g ⟨t, .store ty' x y, ty, ps, af, gd⟩ true := by exact gd0) : J P ops fin (⟨t, .store ty' x y, ty, ps, af, gd⟩ :: r) H g E :=
  j_set hE hg (fun ρ β u w F hs he hH => by
    obtain ⟨p, k1, k2⟩ := he x (by simp [Op.operands]) _ hX
    obtain ⟨vs, hv, hy⟩ := hsp.le _ _ _ (he y (by simp [Op.operands]) _ hY)
    obtain ⟨p', cs, q1, q2, q3, q4⟩ := hH.hold e _ lk1_same
    have hpp : p' = p := by rw [k1] at q1; cases q1; rfl
    subst hpp
    unfold putL at hl
    split at hl
    · rename_i a b' ha hb'
      cases hl
      obtain ⟨c1, c2⟩ := q4.take ha
      obtain ⟨c3, c4⟩ := q4.skip hb'
      obtain ⟨f1, f2⟩ := hy.flat
      have hf : Flat (ρ y) m := by rw [hv]; exact ⟨by simpa [Value.cells, hm] using f1, by simpa [Value.cells] using f2⟩
      have hd := (hH.dead e _ p' lk1_same ((q2 p').2 rfl)).1
      have hle : off + m ≤ cs.length := by omega
      unfold Res
      simp only [execOp, k2, Sem.run_bind, run_store q3 hT hf hle, Result.andThen_ok, Sem.run_pure]
      refine ⟨u, β, F, fun _ _ => rfl, tr_setRow hs ⟨e, List.mem_cons_self, (q2 p').2 rfl⟩ hd, hold1 ⟨p', _, q1, q2, setRow_heap _ _ _ _ _ _ q3, ?_⟩ (fun k hk => ?_), fun f Z k h hk => .inl ⟨e, List.mem_cons_self, ?_⟩, rfl⟩
      · have : patch cs off (ρ y).cells.toList = cs.take off ++ (vs ++ cs.drop (off + szs zz)) := by
          unfold patch
          rw [hv]
          simp only [Value.cells, f1, List.append_assoc]
        rw [this]
        exact c2.append (hy.append c4)
      · rw [(q2 k).1 hk]; exact ⟨hd, by simpa using heap_lt q3⟩
      · obtain ⟨rfl, _⟩ := lk1 h; exact hk
    · cases hl) hn
/-- A call of a function; the arguments are what it asks for. -/
theorem ca {f : FuncId} {zs : Array Operand} {tys : Array TypeId} {As Bs : List T} (hA : envs g zs.toList = some As)
    (hl : LeL As Bs := by repeat (first | exact trivial | refine ⟨?_, ?_⟩ | exact T.le.refl _ | exact IsZ.le | exact IsL2.le | exact IsL.le | exact q_le _ _ | exact l_L (by assumption) (by assumption) (by assumption) | assumption))
    (h : Fn P f Bs [] [] [] X) (hn : J P ops fin r (OpS.p X :: H) (putg t X g) E) (hen : Enters P f := by intro a w; kernel_rfl)
    (hg : GuardIs ops g ⟨t, .call ⟨.value (.func f), zs, tys⟩, ty, ps, af, gd⟩ true := by exact gd0) : J P ops fin (⟨t, .call ⟨.value (.func f), zs, tys⟩, ty, ps, af, gd⟩ :: r) H g E :=
  cl hA (fn_le h hl) hn hen hg
/-- append to nothing: a new row. -/
theorem apn {τ : TypeId} {bytes : Nat} (e' : Nat) [hl : IsL Y c ys] (hX : envl g x = some (T.c (.slice none 0 0))) (hY : envl g y = some Y) (hT : SlT P et τ c.sz bytes) (hb : ys.length * bytes ≤ 140737488355328) (h0 : 0 < bytes)
    (hn : J P ops fin r (⟨[], [], [(e', Ent.row c τ ys)], [e'], T.o e'⟩ :: H) (putg t (T.o e') g) ((e', some (Ent.row c τ ys)) :: E)) (hg : GuardIs ops g ⟨t, .call ⟨.builtin .append, #[x, y], #[et, et]⟩, ty, ps, af, gd⟩ true := by exact gd0) : J P ops fin (⟨t, .call ⟨.builtin .append, #[x, y], #[et, et]⟩, ty, ps, af, gd⟩ :: r) H g E :=
  j_new hg (fun ρ β u w F hs he hH => by
    have h1 : ρ x = .slice none 0 0 := he x (by simp [Op.operands, Call.operands]) _ hX
    have hy := (T.l c ys).ext (β' := B0) (fun _ h => by cases h) (hl.le _ _ _ (he y (by simp [Op.operands, Call.operands]) _ hY))
    obtain ⟨v', w', hr, ho, hgw, hv, hsl⟩ := run_append (c := c) (l := ([] : List α)) (xs := []) (ty := ty) (u := u) (w := w) hT (World.ownsRow_nil _ _ _ _) rfl hy hs (by simpa using hb) h0
    rw [← h1] at hr
    unfold Res
    simp only [execOp, resolve, invoke, builtin, Sem.run_bind, Sem.run_pure, Result.andThen_ok, List.map_toArray, List.map_cons, List.map_nil, hr]
    exact after_newrow hs hgw ho hv hsl) hn
/-- A struct's or another result in a box. -/
theorem rv_cell {c' : Ctx} {n : Nat} {a : Nat} {ty' : TypeId} (ha : lk g a = some (T.p e 0)) (hE : lkE E e = some (Ent.box et l)) (hT : Ty P ty' b m) (hF : fieldT b l 0 m = some X) (h1 : (b || m == 1) = true := by rfl) : RV P g E (.cell a ty') X := fun β u w F tmps hs ht hH => by
  obtain ⟨v, k1, p, k2, k3⟩ := ht a _ ha
  obtain ⟨p', cs, q1, q2, q3, q4⟩ := hH.hold e _ hE
  have hpp : p' = p := by rw [k2] at q1; cases q1; rfl
  subst hpp
  obtain ⟨c1, c2⟩ := q4.field hF
  have hlen : ((cs.drop 0).take m).length = m := by rw [List.length_take, List.length_drop]; omega
  have := run_loadAt (P := P) (w := w) (ad := ⟨p', 0, none⟩) (vs := (cs.drop 0).take m) (by rw [hlen]; exact hT) (box_cells q3 m) (by rw [hlen]; exact ty_one hT h1)
  exact ⟨_, by simp [k1, k3, asAddr, this], c2⟩
/-- xs[lo:hi] of a slice that stands. -/
theorem run_cut {A : Option Addr} {n k lo hi : Nat} {kk kk' : IntKind} {τ : TypeId} {sz bytes : Nat} (hT : SlT P et τ sz bytes) (h1 : lo ≤ hi) (h2 : hi ≤ k) (w : World) : ∃ B, (Instr.sliceAt et (.slice A n k) (some (.int kk (lo : Int))) (some (.int kk' (hi : Int))) none).run P w = .ok (.slice B (hi - lo) (k - lo)) w ∧ (lo < k → B = A.map (·.add (lo * sz))) := by
  obtain ⟨ht, inf, z, hi', hz0, hz1, hz2, hzc⟩ := hT.info
  have a1 : (0 : Int) ≤ lo ∧ (lo : Int) ≤ hi := by omega
  have a2 : (0 : Int) ≤ hi ∧ (hi : Int) ≤ k := by omega
  refine ⟨if k = lo then A else A.map (·.add (lo * sz)), ?_, fun h => if_neg (by omega)⟩
  simp [Instr.sliceAt, Instr.slice, run_underlying ht, Instr.sliceBounds, Instr.sliceBound, asIntOf, a1, a2, h1, h2, sizeOf, typeInfo, hi', hz1]
theorem cut_rep {A B : Option Addr} {n k lo hi : Nat} {u : World} (h : (T.l c xs).rep B0 u (.slice A n k)) (h1 : lo ≤ hi) (h2 : hi ≤ xs.length) (hB : lo < k → B = A.map (·.add (lo * c.sz))) : (T.l c ((xs.take hi).drop lo)).rep B0 u (.slice B (hi - lo) (k - lo)) := by
  obtain ⟨A', n', k', e, e1, e2, e3, e4⟩ := h
  cases e
  refine ⟨_, _, _, rfl, by simp; omega, by omega, by omega, fun hp => ?_⟩
  obtain ⟨ad, rfl, zs, hE, hst⟩ := e4 (by omega)
  refine ⟨ad.add (lo * c.sz), hB (by omega), _, Els.drop lo (Els.take hi hE (by omega)) (by simp; omega), ?_⟩
  have hlen := hE.len
  have := Nat.mul_le_mul_right c.sz h1
  have := Nat.mul_le_mul_right c.sz h2
  exact hst.at2 (p := zs.take (lo * c.sz)) (q := zs.drop (hi * c.sz)) (by
    rw [show zs.take (lo * c.sz) = (zs.take (hi * c.sz)).take (lo * c.sz) from by rw [List.take_take, Nat.min_eq_left (by omega)], List.take_append_drop, List.take_append_drop]) (by simp; omega)
/-- xs[:hi] of a slice that stands. -/
theorem sh {hi : Nat} {zh : Operand} {b' : Int} {kk' : IntKind} {τ : TypeId} {bytes : Nat} [hl : IsI X c xs] (hX : envl g x = some X) (hT : SlT P et τ c.sz bytes) (hhi : envl g zh = some (T.c (.int kk' b'))) (hh : b' = (hi : Int) ∧ hi ≤ xs.length) (hn : J P ops fin r (OpS.p (T.l c (xs.take hi)) :: H) (putg t (T.l c (xs.take hi)) g) E) (hg : GuardIs ops g ⟨t, .slice et x none (some zh) none, ty, ps, af, gd⟩ true := by exact gd0) : J P ops fin (⟨t, .slice et x none (some zh) none, ty, ps, af, gd⟩ :: r) H g E :=
  j_val hg (ok_pure fun ρ β u w F hs he hH => by
    obtain ⟨rfl, h2⟩ := hh
    have hx := (T.l c xs).ext (β' := B0) (fun _ h => by cases h) (hl.le _ _ _ (he x (by simp [Op.operands]) _ hX))
    have hz : ρ zh = _ := he zh (by simp [Op.operands]) _ hhi
    obtain ⟨A, n, k, ev, e1, e2, e3, e4⟩ := id hx
    obtain ⟨ht, inf, z, hi', hz0, hz1, hz2, hzc⟩ := hT.info
    have a2 : (0 : Int) ≤ hi ∧ (hi : Int) ≤ k := by omega
    have a3 : hi ≤ k := by omega
    rw [ev] at hx
    have := cut_rep (lo := 0) (B := A) hx (Nat.zero_le _) h2 (fun _ => by cases A <;> simp [Addr.add])
    refine ⟨.slice A hi k, ?_, (T.l c _).ext (fun _ h => by cases h) (by simpa using this)⟩
    have hA : (if k = 0 then A else A.map (·.add (0 * inf.size))) = A := by
      split
      · rfl
      · cases A <;> simp [Addr.add]
    simp [execOp, ev, hz, Instr.sliceAt, Instr.slice, run_underlying ht, Instr.sliceBounds, Instr.sliceBound, asIntOf, a2, a3, sizeOf, typeInfo, hi']
    cases A <;> simp [Addr.add]) hn
/-- xs[lo:] of a slice that stands. -/
theorem sr {lo : Nat} {zl' : Operand} {a : Int} {kk : IntKind} {τ : TypeId} {bytes : Nat} [hl : IsI X c xs] (hX : envl g x = some X) (hT : SlT P et τ c.sz bytes) (hlo : envl g zl' = some (T.c (.int kk a))) (hh : a = (lo : Int) ∧ lo ≤ xs.length) (hn : J P ops fin r (OpS.p (T.l c (xs.drop lo)) :: H) (putg t (T.l c (xs.drop lo)) g) E) (hg : GuardIs ops g ⟨t, .slice et x (some zl') none none, ty, ps, af, gd⟩ true := by exact gd0) : J P ops fin (⟨t, .slice et x (some zl') none none, ty, ps, af, gd⟩ :: r) H g E :=
  j_val hg (ok_pure fun ρ β u w F hs he hH => by
    obtain ⟨rfl, h1⟩ := hh
    have hx := (T.l c xs).ext (β' := B0) (fun _ h => by cases h) (hl.le _ _ _ (he x (by simp [Op.operands]) _ hX))
    have hy : ρ zl' = _ := he zl' (by simp [Op.operands]) _ hlo
    obtain ⟨A, n, k, ev, e1, e2, e3, e4⟩ := id hx
    obtain ⟨ht, inf, z, hi', hz0, hz1, hz2, hzc⟩ := hT.info
    have a1 : (0 : Int) ≤ lo ∧ (lo : Int) ≤ n := by omega
    have a3 : lo ≤ n := by omega
    rw [ev] at hx
    have := cut_rep (lo := lo) (hi := xs.length) (B := if k = lo then A else A.map (·.add (lo * c.sz))) hx h1 (Nat.le_refl _) (fun h => if_neg (by omega))
    refine ⟨_, ?_, (T.l c _).ext (fun _ h => by cases h) (by simpa using this)⟩
    simp [execOp, ev, hy, Instr.sliceAt, Instr.slice, run_underlying ht, Instr.sliceBounds, Instr.sliceBound, asIntOf, a1, a3, sizeOf, typeInfo, hi', hz1, e1]) hn
end
end Go.Proofs.YtekghdfbhbhigaaGreat.V
/- The types of the program. -/
set_option linter.unusedVariables false
namespace Go.Proofs.YtekghdfbhbhigaaGreat.V
open Go.RowKit Mt Nml
theorem tyB : Ty Tryz.prog 4 false 1 := ⟨by kernel_rfl, by kernel_rfl⟩
theorem tyI : Ty Tryz.prog 3 false 1 := ⟨by kernel_rfl, by kernel_rfl⟩
theorem tyE : Ty Tryz.prog 41 false 1 := ⟨by kernel_rfl, by kernel_rfl⟩
theorem tyU32 : Ty Tryz.prog 119 false 1 := ⟨by kernel_rfl, by kernel_rfl⟩
theorem tyLs : Ty Tryz.prog 30 false 1 := ⟨by kernel_rfl, by kernel_rfl⟩
theorem tyZ : Ty Tryz.prog 32 true 2 := ⟨by kernel_rfl, by kernel_rfl⟩
theorem tyQ : Ty Tryz.prog 34 true 4 := ⟨by kernel_rfl, by kernel_rfl⟩
theorem tyZs : Ty Tryz.prog 23 false 1 := ⟨by kernel_rfl, by kernel_rfl⟩
theorem tyZss : Ty Tryz.prog 22 false 1 := ⟨by kernel_rfl, by kernel_rfl⟩
theorem tyQs : Ty Tryz.prog 37 false 1 := ⟨by kernel_rfl, by kernel_rfl⟩
theorem tyG : Ty Tryz.prog 27 true 2 := ⟨by kernel_rfl, by kernel_rfl⟩
theorem fNeg : FieldT Tryz.prog 32 0 0 false 1 := FieldT.mk' tyB
theorem fMag : FieldT Tryz.prog 32 1 1 false 1 := FieldT.mk' tyLs
theorem fNum : FieldT Tryz.prog 34 0 0 true 2 := FieldT.mk' tyZ
theorem fDen : FieldT Tryz.prog 34 1 2 true 2 := FieldT.mk' tyZ
theorem fD : FieldT Tryz.prog 27 0 0 false 1 := FieldT.mk' tyZs
theorem fL : FieldT Tryz.prog 27 1 1 false 1 := FieldT.mk' tyZss
theorem slLs : SlT Tryz.prog 30 119 1 4 := SlT.mk (.int .u32 0)
theorem slZs : SlT Tryz.prog 23 32 2 32 := SlT.mk (.agg #[.bool false, .slice none 0 0])
theorem slZss : SlT Tryz.prog 22 23 1 24 := SlT.mk (.slice none 0 0)
theorem slQs : SlT Tryz.prog 37 34 4 64 := SlT.mk (.agg #[.bool false, .slice none 0 0, .bool false, .slice none 0 0])
theorem stZ : StructT Tryz.prog 32 [T.c (.bool false), T.c (.slice none 0 0)] [(0, 1), (1, 1)] := StructT.mk' (zs := [.bool false, .slice none 0 0])
theorem zeZ : Zero Tryz.prog 32 [T.c (.bool false), T.c (.slice none 0 0)] := zero_of (zs := [.bool false, .slice none 0 0]) (z := .agg #[.bool false, .slice none 0 0]) (by kernel_rfl)
theorem stQ : StructT Tryz.prog 34 [T.c (.bool false), T.c (.slice none 0 0), T.c (.bool false), T.c (.slice none 0 0)] [(0, 2), (2, 2)] := StructT.mk' (zs := [.bool false, .slice none 0 0, .bool false, .slice none 0 0])
theorem zeQ : Zero Tryz.prog 34 [T.c (.bool false), T.c (.slice none 0 0), T.c (.bool false), T.c (.slice none 0 0)] := zero_of (zs := [.bool false, .slice none 0 0, .bool false, .slice none 0 0]) (z := .agg #[.bool false, .slice none 0 0, .bool false, .slice none 0 0]) (by kernel_rfl)
theorem stG : StructT Tryz.prog 27 [T.c (.slice none 0 0), T.c (.slice none 0 0)] [(0, 1), (1, 1)] := StructT.mk' (zs := [.slice none 0 0, .slice none 0 0])
theorem zeB : Zero Tryz.prog 4 [T.c (.bool false)] := zero_of (zs := [.bool false]) (z := .bool false) (by kernel_rfl)
theorem zeE : Zero Tryz.prog 41 [T.c (.int .i64 0)] := zero_of (zs := [.int .i64 0]) (z := .int .i64 0) (by kernel_rfl)
theorem zeZs : Zero Tryz.prog 23 [T.c (.slice none 0 0)] := zero_of (zs := [.slice none 0 0]) (z := .slice none 0 0) (by kernel_rfl)
theorem zvU32 : (Tryz.prog.info? 119).bind (·.zero) = some (.int .u32 0) := by kernel_rfl
theorem mixed : Tryz.prog.follows .mixedOrders = true := by kernel_rfl
theorem zrU (u : World) : (cU.X cU.dflt).rep B0 u (.int .u32 0) := rfl
end Go.Proofs.YtekghdfbhbhigaaGreat.V
/- A logic of calls: bits, quotients, sizes changed, copies, functions that are known otherwise. -/
set_option linter.unusedVariables false
set_option linter.unusedSimpArgs false
namespace Go.Proofs.YtekghdfbhbhigaaGreat.V
open Go.RowKit Mt Nml

theorem or_u64 (i : Nat) {x y : Int} (hx0 : 0 ≤ x) (hx1 : x < 18446744073709551616) (hx : x % 2 ^ i = 0) (hy0 : 0 ≤ y) (hy1 : y < 2 ^ i) (hy2 : y < 18446744073709551616) : bits .or .u64 x y = x + y := by
  obtain ⟨a, rfl⟩ := Int.eq_ofNat_of_zero_le hx0
  obtain ⟨b, rfl⟩ := Int.eq_ofNat_of_zero_le hy0
  rw [u64_or_nat a b (by omega) (by omega)]
  have hb : b < 2 ^ i := by exact_mod_cast hy1
  have ha : a % 2 ^ i = 0 := by exact_mod_cast hx
  have e : a = 2 ^ i * (a / 2 ^ i) := by have := Nat.mod_add_div a (2 ^ i); omega
  have := Nat.two_pow_add_eq_or_of_lt hb (a / 2 ^ i)
  rw [← e] at this
  rw [← this]
  simp
theorem or_u64_swap {x y : Int} (hx0 : 0 ≤ x) (hx1 : x < 18446744073709551616) (hy0 : 0 ≤ y) (hy1 : y < 18446744073709551616) : bits .or .u64 x y = bits .or .u64 y x := by
  obtain ⟨a, rfl⟩ := Int.eq_ofNat_of_zero_le hx0
  obtain ⟨b, rfl⟩ := Int.eq_ofNat_of_zero_le hy0
  rw [u64_or_nat a b (by omega) (by omega), u64_or_nat b a (by omega) (by omega), Nat.or_comm]
theorem or_u32_swap {x y : Int} (hx0 : 0 ≤ x) (hx1 : x < 4294967296) (hy0 : 0 ≤ y) (hy1 : y < 4294967296) : bits .or .u32 x y = bits .or .u32 y x := by
  obtain ⟨a, rfl⟩ := Int.eq_ofNat_of_zero_le hx0
  obtain ⟨b, rfl⟩ := Int.eq_ofNat_of_zero_le hy0
  rw [u32_or_nat a b (by omega) (by omega), u32_or_nat b a (by omega) (by omega), Nat.or_comm]
theorem or_u32 (i : Nat) {x y : Int} (hx0 : 0 ≤ x) (hx1 : x < 4294967296) (hx : x % 2 ^ i = 0) (hy0 : 0 ≤ y) (hy1 : y < 2 ^ i) (hy2 : y < 4294967296) : bits .or .u32 x y = x + y := by
  obtain ⟨a, rfl⟩ := Int.eq_ofNat_of_zero_le hx0
  obtain ⟨b, rfl⟩ := Int.eq_ofNat_of_zero_le hy0
  rw [u32_or_nat a b (by omega) (by omega)]
  have hb : b < 2 ^ i := by exact_mod_cast hy1
  have ha : a % 2 ^ i = 0 := by exact_mod_cast hx
  have e : a = 2 ^ i * (a / 2 ^ i) := by have := Nat.mod_add_div a (2 ^ i); omega
  have := Nat.two_pow_add_eq_or_of_lt hb (a / 2 ^ i)
  rw [← e] at this
  rw [← this]
  simp


section
variable {P : Program} {ops : Array Oper} {fin : List OpS → List (Nat × T) → List (Nat × Option Ent) → Prop} {r : List Oper} {H : List OpS} {g : List (Nat × T)} {E : List (Nat × Option Ent)} {o : Oper}
variable {t : Option Nat} {ty : TypeId} {ps : String} {af : Array Edge} {gd : Option (Nat × Bool)} {x y : Operand} {X Y : T} {e off m : Nat} {b : Bool} {l l' : List T} {et : TypeId}
variable {α : Type} {c : Cod α} {xs ys : List α}
theorem qo {t1 t2 : TypeId} {kk k2 : IntKind} {a d lo hi : Int} (z : Int) (hX : envl g x = some (T.c (.int kk a))) (hY : envl g y = some (T.c (.int k2 d))) (hk : rgK kk = some (lo, hi)) (hz : a / d = z ∧ 0 ≤ a ∧ a ≤ hi ∧ 1 ≤ d) (hn : J P ops fin r (OpS.p (T.c (.int kk z)) :: H) (putg t (T.c (.int kk z)) g) E) (hg : GuardIs ops g ⟨t, .binOp .quo t1 x y t2, ty, ps, af, gd⟩ true := by exact gd0) (hkk : kk = k2 := by rfl) : J P ops fin (⟨t, .binOp .quo t1 x y t2, ty, ps, af, gd⟩ :: r) H g E :=
  bop hX hY (fun ρ w h1 h2 => by 
    subst hkk
    have hd : d ≠ 0 := by omega
    have h0 : 0 ≤ a / d := Int.ediv_nonneg hz.2.1 (by omega)
    have h3 : a / d ≤ a := Int.ediv_le_self _ hz.2.1
    have hlo : lo ≤ 0 := by cases kk <;> cases hk <;> omega
    simp [execOp, h1, h2, eqGuard, binOp, Op.intDiv, hd]
    rw [Int.tdiv_eq_ediv_of_nonneg hz.2.1, ← hz.1, rgK_wrap hk ⟨by omega, by omega⟩]) hn hg
theorem re {t1 t2 : TypeId} {kk k2 : IntKind} {a d : Int} (z : Int) (hX : envl g x = some (T.c (.int kk a))) (hY : envl g y = some (T.c (.int k2 d))) (hz : a % d = z ∧ 0 ≤ a ∧ d ≠ 0) (hn : J P ops fin r (OpS.p (T.c (.int kk z)) :: H) (putg t (T.c (.int kk z)) g) E) (hg : GuardIs ops g ⟨t, .binOp .rem t1 x y t2, ty, ps, af, gd⟩ true := by exact gd0) (hkk : kk = k2 := by rfl) : J P ops fin (⟨t, .binOp .rem t1 x y t2, ty, ps, af, gd⟩ :: r) H g E :=
  bop hX hY (fun ρ w h1 h2 => by 
    subst hkk
    have hd := hz.2.2
    simp [execOp, h1, h2, eqGuard, binOp, Op.intDiv, hd]
    rw [Int.tmod_eq_emod_of_nonneg hz.2.1, hz.1]) hn hg
theorem shL {t1 t2 : TypeId} {kk k2 : IntKind} {a d lo hi : Int} {s : Nat} (z : Int) (hX : envl g x = some (T.c (.int kk a))) (hY : envl g y = some (T.c (.int k2 d))) (hd : d = (s : Int)) (hk : rgK kk = some (lo, hi)) (hz : a * 2 ^ s = z ∧ lo ≤ z ∧ z ≤ hi ∧ s ≤ kk.bits) (hn : J P ops fin r (OpS.p (T.c (.int kk z)) :: H) (putg t (T.c (.int kk z)) g) E) (hg : GuardIs ops g ⟨t, .binOp .shl t1 x y t2, ty, ps, af, gd⟩ true := by exact gd0) : J P ops fin (⟨t, .binOp .shl t1 x y t2, ty, ps, af, gd⟩ :: r) H g E :=
  bop hX hY (fun ρ w h1 h2 => by 
    subst hd
    have hd0 : ¬ ((s : Int) < 0) := by omega
    simp [execOp, h1, h2, eqGuard, binOp, Op.shift, hd0]
    rw [Nat.min_eq_left hz.2.2.2, hz.1, rgK_wrap hk ⟨hz.2.1, hz.2.2.1⟩]) hn hg
theorem shR {t1 t2 : TypeId} {kk k2 : IntKind} {a d : Int} {s : Nat} (z : Int) (hX : envl g x = some (T.c (.int kk a))) (hY : envl g y = some (T.c (.int k2 d))) (hd : d = (s : Int)) (hz : a / 2 ^ s = z ∧ 0 ≤ a ∧ s ≤ kk.bits) (hn : J P ops fin r (OpS.p (T.c (.int kk z)) :: H) (putg t (T.c (.int kk z)) g) E) (hg : GuardIs ops g ⟨t, .binOp .shr t1 x y t2, ty, ps, af, gd⟩ true := by exact gd0) : J P ops fin (⟨t, .binOp .shr t1 x y t2, ty, ps, af, gd⟩ :: r) H g E :=
  bop hX hY (fun ρ w h1 h2 => by 
    subst hd
    have hd0 : ¬ ((s : Int) < 0) := by omega
    simp [execOp, h1, h2, eqGuard, binOp, Op.shift, hd0]
    rw [Nat.min_eq_left hz.2.2, Int.fdiv_eq_ediv_of_nonneg _ (Int.le_of_lt (Int.pow_pos (by omega))), hz.1]) hn hg
theorem orr {t1 t2 : TypeId} {kk k2 : IntKind} {a d : Int} (z : Int) (hX : envl g x = some (T.c (.int kk a))) (hY : envl g y = some (T.c (.int k2 d))) (hz : bits .or kk a d = z) (hn : J P ops fin r (OpS.p (T.c (.int kk z)) :: H) (putg t (T.c (.int kk z)) g) E) (hg : GuardIs ops g ⟨t, .binOp .or t1 x y t2, ty, ps, af, gd⟩ true := by exact gd0) (hkk : kk = k2 := by rfl) : J P ops fin (⟨t, .binOp .or t1 x y t2, ty, ps, af, gd⟩ :: r) H g E :=
  bop hX hY (fun ρ w h1 h2 => by 
    subst hkk
    rw [← hz]
    simp [execOp, h1, h2, eqGuard, binOp, Op.intBits, bits]) hn hg
theorem sbm {t1 t2 : TypeId} {kk k2 : IntKind} {a d : Int} (z : Int) (hX : envl g x = some (T.c (.int kk a))) (hY : envl g y = some (T.c (.int k2 d))) (hkk : kk = .u64 ∧ k2 = .u64) (hz : (a - d) % 18446744073709551616 = z) (hn : J P ops fin r (OpS.p (T.c (.int kk z)) :: H) (putg t (T.c (.int kk z)) g) E) (hg : GuardIs ops g ⟨t, .binOp .sub t1 x y t2, ty, ps, af, gd⟩ true := by exact gd0) : J P ops fin (⟨t, .binOp .sub t1 x y t2, ty, ps, af, gd⟩ :: r) H g E :=
  bop hX hY (fun ρ w h1 h2 => by 
    obtain ⟨rfl, rfl⟩ := hkk
    simp [execOp, h1, h2, eqGuard, binOp, Op.intArith, IntKind.wrap_u64, hz]) hn hg
theorem run_convert {src dst : TypeId} {k1 k2 : IntKind} {a : Int} {w : World} (h1 : (P.underlying src).isSome = true) (h2 : P.underlying dst = some (.int k2)) : (convert src dst (.int k1 a)).run P w = .ok (.int k2 (k2.wrap a)) w := by
  obtain ⟨d, hd⟩ := Option.isSome_iff_exists.1 h1
  simp [convert, run_underlying hd, run_underlying h2, Conv.intToInt]
/-- Types of whole numbers that are turned into one another. -/
def Cv (P : Program) (src dst : TypeId) (k2 : IntKind) : Prop := (P.underlying src).isSome = true ∧ P.underlying dst = some (.int k2)
theorem cvt {src dst : TypeId} {k1 k2 : IntKind} {a lo hi : Int} (z : Int) (hX : envl g x = some (T.c (.int k1 a))) (hc : Cv P src dst k2) (hk : rgK k2 = some (lo, hi)) (hz : a = z ∧ lo ≤ z ∧ z ≤ hi) (hn : J P ops fin r (OpS.p (T.c (.int k2 z)) :: H) (putg t (T.c (.int k2 z)) g) E) (hg : GuardIs ops g ⟨t, .convert src dst x, ty, ps, af, gd⟩ true := by exact gd0) : J P ops fin (⟨t, .convert src dst x, ty, ps, af, gd⟩ :: r) H g E :=
  j_val hg (ok_pure fun ρ β u w F hs he hH => ⟨.int k2 z, by
    have h1 : ρ x = .int k1 a := he x (by simp [Op.operands]) _ hX
    simp only [execOp, h1, Sem.run_bind, run_convert hc.1 hc.2, Result.andThen_ok, Sem.run_pure]
    rw [hz.1, rgK_wrap hk hz.2], rfl⟩) hn
theorem cvm {src dst : TypeId} {k1 : IntKind} {a : Int} (z : Int) (hX : envl g x = some (T.c (.int k1 a))) (hc : Cv P src dst .u32) (hz : a % 4294967296 = z) (hn : J P ops fin r (OpS.p (T.c (.int .u32 z)) :: H) (putg t (T.c (.int .u32 z)) g) E) (hg : GuardIs ops g ⟨t, .convert src dst x, ty, ps, af, gd⟩ true := by exact gd0) : J P ops fin (⟨t, .convert src dst x, ty, ps, af, gd⟩ :: r) H g E :=
  j_val hg (ok_pure fun ρ β u w F hs he hH => ⟨.int .u32 z, by
    have h1 : ρ x = .int k1 a := he x (by simp [Op.operands]) _ hX
    simp only [execOp, h1, Sem.run_bind, run_convert hc.1 hc.2, Result.andThen_ok, Sem.run_pure]
    rw [show IntKind.u32.wrap a = a % 4294967296 from by simp [IntKind.wrap, IntKind.bits, IntKind.signed], hz], rfl⟩) hn
theorem mnb {kk : IntKind} {a d : Int} {tys : Array TypeId} (z : Int) (hX : envl g x = some (T.c (.int kk a))) (hY : envl g y = some (T.c (.int kk d))) (hz : min a d = z) (hn : J P ops fin r (OpS.p (T.c (.int kk z)) :: H) (putg t (T.c (.int kk z)) g) E) (hg : GuardIs ops g ⟨t, .call ⟨.builtin .min, #[x, y], tys⟩, ty, ps, af, gd⟩ true := by exact gd0) : J P ops fin (⟨t, .call ⟨.builtin .min, #[x, y], tys⟩, ty, ps, af, gd⟩ :: r) H g E :=
  j_val hg (ok_pure fun ρ β u w F hs he hH => ⟨.int kk z, by
    have h1 : ρ x = .int kk a := he x (by simp [Op.operands, Call.operands]) _ hX
    have h2 : ρ y = .int kk d := he y (by simp [Op.operands, Call.operands]) _ hY
    have e : (if d < a then d else a) = z := by rw [← hz]; split <;> omega
    simp [execOp, resolve, invoke, builtin, h1, h2, Builtin.min_, Builtin.min2, e], rfl⟩) hn
/-- copy into a row of one's own that is no longer. -/
theorem cpy {τ : TypeId} {bytes : Nat} [hl : IsL Y c ys] (hX : envl g x = some (T.o e)) (hE : lkE E e = some (Ent.row c τ xs)) (hY : envl g y = some Y) (hT : SlT P et τ c.sz bytes) (hle : xs.length ≤ ys.length) (hn : J P ops fin r (⟨[], [e], [(e, Ent.row c τ (ys.take xs.length))], [], T.c (.int .i64 (xs.length : Int))⟩ :: H) (putg t (T.c (.int .i64 (xs.length : Int))) g) ((e, some (Ent.row c τ (ys.take xs.length))) :: E)) (hg : GuardIs ops g ⟨t, .call ⟨.builtin .copy, #[x, y], #[et, et]⟩, ty, ps, af, gd⟩ true := by exact gd0) : J P ops fin (⟨t, .call ⟨.builtin .copy, #[x, y], #[et, et]⟩, ty, ps, af, gd⟩ :: r) H g E :=
  j_set hE hg (fun ρ β u w F hs he hH => by
    obtain ⟨h1, A, n, k, h2⟩ := he x (by simp [Op.operands, Call.operands]) _ hX
    obtain ⟨B, m, q, ey, hm, hmq, hq, hcell⟩ := hl.le _ _ _ (he y (by simp [Op.operands, Call.operands]) _ hY)
    obtain ⟨ht, inf, z, hi, hz0, hz1, hz2, hzc⟩ := hT.info
    obtain ⟨zs, k1, k2, k3⟩ := hH.hold e _ lk1_same
    have hlz := k2.len
    have hmin : Nat.min m xs.length = xs.length := Nat.min_eq_right (by omega)
    rcases k1.2 with ⟨ev, hn0⟩ | ⟨p, cap, cur, ev, hg0, hh, hc1, hc2, hc3, hc4⟩
    · have hxs : xs = [] := List.eq_nil_of_length_eq_zero hn0
      subst hxs
      have hx : ρ x = .slice none 0 0 := by rw [h1, ev]
      have hr : (Builtin.copy_ #[et, et] ty #[.slice none 0 0, .slice B m q]).run P w = .ok (.int .i64 0) w := by
        have hm0 : Nat.min m 0 = 0 := Nat.min_eq_right (Nat.zero_le _)
        cases B <;> simp [Builtin.copy_, run_underlying ht, sizeOf, typeInfo, hi, Builtin.lenOf, Builtin.firstCells, goInt, hm0, loadCells, loadCellsFrom]
      unfold Res
      simp only [execOp, resolve, invoke, builtin, Sem.run_bind, Sem.run_pure, Result.andThen_ok, List.map_toArray, List.map_cons, List.map_nil, hx, ey, hr]
      exact ⟨u, β, F, fun _ _ => rfl, Tr.refl hs, by simpa using hH, fun f Z k h hk => .inl ⟨e, List.mem_cons_self, by obtain ⟨rfl, _⟩ := lk1 h; exact hk⟩, rfl⟩
    · have hx : ρ x = .slice (some ⟨p, 0, none⟩) xs.length cap := by rw [h1, ev]
      have hcap : xs.length * c.sz ≤ cur.size := by rw [hc3]; exact Nat.mul_le_mul_right _ hc1
      obtain ⟨vs, hvs, hvl, hload⟩ : ∃ vs, Els c (ys.take xs.length) u vs ∧ vs.length = xs.length * c.sz ∧ (Builtin.firstCells c.sz xs.length (.slice B m q)).run P w = .ok vs.toArray w := by
        rcases Nat.eq_zero_or_pos xs.length with h0 | h0
        · refine ⟨[], by rw [h0, List.take_zero]; rfl, by rw [h0]; simp, ?_⟩
          rw [h0]
          cases B <;> simp [Builtin.firstCells, loadCells, loadCellsFrom]
        · obtain ⟨ad, rfl, vs, hE', hst⟩ := hcell (by omega)
          have hlv := hE'.len
          have hle2 : xs.length * c.sz ≤ vs.length := by rw [hlv]; exact Nat.mul_le_mul_right _ hle
          refine ⟨vs.take (xs.length * c.sz), Els.take _ hE' hle, by rw [List.length_take]; omega, ?_⟩
          have := run_loadCells_list (P := P) w ad (vs.take (xs.length * c.sz)) (fun j v hv => by
            rw [List.getElem?_take] at hv
            split at hv
            · exact hs _ _ (hst j v hv)
            · cases hv)
          rw [List.length_take, Nat.min_eq_left hle2] at this
          simp [Builtin.firstCells, this]
      have hst := run_storeCells_at P p 0 τ vs 0 cur w hh (by omega) hvs.one
      have hr : (Builtin.copy_ #[et, et] ty #[.slice (some ⟨p, 0, none⟩) xs.length cap, .slice B m q]).run P w = .ok (.int .i64 (xs.length : Int)) (w.setRow p (vs ++ cur.toList.drop vs.length).toArray) := by
        have hst' : (storeCells ⟨p, 0, none⟩ vs).run P w = .ok () (w.setRow p (vs ++ cur.toList.drop vs.length).toArray) := by simpa using hst
        simp [Builtin.copy_, run_underlying ht, sizeOf, typeInfo, hi, hz1, Builtin.lenOf, hmin, hload, hst', goInt]
      have hpF : F e p := (k3 p).2 (by rw [ev]; rfl)
      have hd := (hH.dead e _ p lk1_same hpF).1
      unfold Res
      simp only [execOp, resolve, invoke, builtin, Sem.run_bind, Sem.run_pure, Result.andThen_ok, List.map_toArray, List.map_cons, List.map_nil, hx, ey, hr]
      refine ⟨u, β, F, fun _ _ => rfl, tr_setRow hs ⟨e, List.mem_cons_self, hpF⟩ hd, hold1 ⟨vs, ?_, hvs, k3⟩ (fun k hk => ?_), fun f Z k h hk => .inl ⟨e, List.mem_cons_self, ?_⟩, rfl⟩
      · have hlt : (ys.take xs.length).length = xs.length := by rw [List.length_take]; omega
        rw [hlt, ev]
        refine ⟨hvl, .inr ⟨p, cap, _, rfl, Nat.zero_le _, setRow_heap _ _ _ _ _ _ hh, hc1, hc2, ?_, ?_⟩⟩
        · simp only [List.size_toArray, List.length_append, List.length_drop, Array.length_toList]; omega
        · rw [← hvl]
          exact List.take_left' rfl
      · obtain ⟨m1, m2⟩ := hH.dead e _ k lk1_same hk
        exact ⟨m1, by simpa using m2⟩
      · obtain ⟨rfl, _⟩ := lk1 h; exact hk) hn
end
/-- A function that is known to answer so, and to leave the world as it was. -/
theorem fn_calls {P : Program} {f : FuncId} {args : List Value} {v : Value} (h : ∀ w, Calls P f args.toArray w fun e w' => e = .returned v ∧ w' = w) : Fn P f (args.map T.c) [] [] [] (T.c v) := fun vs β u w F hs hr hH => by
  have e : vs = args := by
    clear h hH
    induction args generalizing vs with
    | nil => cases vs with
      | nil => rfl
      | cons _ _ => exact hr.elim
    | cons a r ih => cases vs with
      | nil => exact hr.elim
      | cons b s => rw [ih s hr.2, show b = a from hr.1]
  subst e
  exact (h w).mono fun e w' ⟨he, hw⟩ => ⟨v, he, by subst hw; exact after_pure hs rfl⟩
theorem cvU32U64 : Cv Tryz.prog 119 150 .u64 := ⟨by kernel_rfl, by kernel_rfl⟩
theorem cvU64U32 : Cv Tryz.prog 150 119 .u32 := ⟨by kernel_rfl, by kernel_rfl⟩
theorem cvIU : Cv Tryz.prog 3 151 .u64 := ⟨by kernel_rfl, by kernel_rfl⟩
theorem cvI64U64 : Cv Tryz.prog 2 150 .u64 := ⟨by kernel_rfl, by kernel_rfl⟩
end Go.Proofs.YtekghdfbhbhigaaGreat.V
/- A logic of calls: views into a row of one's own, calls that give or take memory. -/
set_option linter.unusedVariables false
set_option linter.unusedSimpArgs false
namespace Go.Proofs.YtekghdfbhbhigaaGreat.V
open Go.RowKit Mt Nml

/-- A part of a row of one's own: from off on, n long; of one cell each. -/
def T.v (e off n : Nat) : T := ⟨[e], 1, false, fun β _ v => ∃ b m k, β e = .slice (some ⟨b, 0, none⟩) m k ∧ off + n ≤ k ∧ v = .slice (some ⟨b, off, none⟩) n (k - off), fun ⟨_, _, _, _, _, e⟩ _ => by subst e; exact ⟨⟨rfl, rfl⟩, rfl⟩, fun _ h => h,
  fun hn ⟨b, m, k, h1, h2, h3⟩ => ⟨b, m, k, by rw [hn _ List.mem_cons_self]; exact h1, h2, h3⟩⟩
section
variable {P : Program} {ops : Array Oper} {fin : List OpS → List (Nat × T) → List (Nat × Option Ent) → Prop} {r : List Oper} {H : List OpS} {g : List (Nat × T)} {E : List (Nat × Option Ent)} {o : Oper}
variable {t : Option Nat} {ty : TypeId} {ps : String} {af : Array Edge} {gd : Option (Nat × Bool)} {x y : Operand} {X Y : T} {e off m n : Nat} {b : Bool} {et : TypeId}
variable {α : Type} {c : Cod α} {xs ys : List α}
theorem lnv {τ : TypeId} {sz bytes : Nat} (hT : SlT P et τ sz bytes) (hX : envl g x = some (T.v e off n)) (hn : J P ops fin r (OpS.p (T.c (.int .i64 (n : Int))) :: H) (putg t (T.c (.int .i64 (n : Int))) g) E) (hg : GuardIs ops g ⟨t, .call ⟨.builtin .len, #[x], #[et]⟩, ty, ps, af, gd⟩ true := by exact gd0) : J P ops fin (⟨t, .call ⟨.builtin .len, #[x], #[et]⟩, ty, ps, af, gd⟩ :: r) H g E :=
  j_val hg (ok_pure fun ρ β u w F hs he hH => by
    obtain ⟨q, m, k, h1, h2, h3⟩ := he x (by simp [Op.operands, Call.operands]) _ hX
    exact ⟨_, run_len hT h3, rfl⟩) hn
theorem scv {lo hi : Nat} {zl' zh : Operand} {a b' : Int} {kk kk' : IntKind} {τ : TypeId} {bytes : Nat} (hX : envl g x = some (T.v e off n)) (hT : SlT P et τ 1 bytes) (hlo : envl g zl' = some (T.c (.int kk a))) (hhi : envl g zh = some (T.c (.int kk' b'))) (hh : a = (lo : Int) ∧ b' = (hi : Int) ∧ lo < hi ∧ hi ≤ n) (hn : J P ops fin r (OpS.p (T.v e (off + lo) (hi - lo)) :: H) (putg t (T.v e (off + lo) (hi - lo)) g) E) (hg : GuardIs ops g ⟨t, .slice et x (some zl') (some zh) none, ty, ps, af, gd⟩ true := by exact gd0) : J P ops fin (⟨t, .slice et x (some zl') (some zh) none, ty, ps, af, gd⟩ :: r) H g E :=
  j_val hg (ok_pure fun ρ β u w F hs he hH => by
    obtain ⟨rfl, rfl, h1, h2⟩ := hh
    obtain ⟨q, m, k, k1, k2, ev⟩ := he x (by simp [Op.operands]) _ hX
    have hy : ρ zl' = _ := he zl' (by simp [Op.operands]) _ hlo
    have hz : ρ zh = _ := he zh (by simp [Op.operands]) _ hhi
    obtain ⟨B, q1, q2⟩ := run_cut (kk := kk) (kk' := kk') (A := some ⟨q, off, none⟩) (n := n) (k := k - off) hT (Nat.le_of_lt h1) (by omega) w
    refine ⟨.slice B (hi - lo) (k - off - lo), by simp only [execOp, ev, hy, hz, Option.map_some, Option.map_none, Sem.run_bind, q1, Result.andThen_ok, Sem.run_pure], q, m, k, k1, by omega, ?_⟩
    rw [q2 (by omega), Nat.sub_sub]
    simp [Addr.add]) hn
theorem shv {hi : Nat} {zh : Operand} {b' : Int} {kk' : IntKind} {τ : TypeId} {bytes : Nat} (hX : envl g x = some (T.v e off n)) (hT : SlT P et τ 1 bytes) (hhi : envl g zh = some (T.c (.int kk' b'))) (hh : b' = (hi : Int) ∧ hi ≤ n) (hn : J P ops fin r (OpS.p (T.v e off hi) :: H) (putg t (T.v e off hi) g) E) (hg : GuardIs ops g ⟨t, .slice et x none (some zh) none, ty, ps, af, gd⟩ true := by exact gd0) : J P ops fin (⟨t, .slice et x none (some zh) none, ty, ps, af, gd⟩ :: r) H g E :=
  j_val hg (ok_pure fun ρ β u w F hs he hH => by
    obtain ⟨rfl, h2⟩ := hh
    obtain ⟨q, m, k, k1, k2, ev⟩ := he x (by simp [Op.operands]) _ hX
    have hz : ρ zh = _ := he zh (by simp [Op.operands]) _ hhi
    obtain ⟨ht, inf, z, hi', hz0, hz1, hz2, hzc⟩ := hT.info
    have a2 : (0 : Int) ≤ hi ∧ (hi : Int) ≤ ((k - off : Nat) : Int) := by omega
    have a3 : hi ≤ k - off := by omega
    refine ⟨.slice (some ⟨q, off, none⟩) hi (k - off), ?_, q, m, k, k1, by omega, rfl⟩
    simp [execOp, ev, hz, Instr.sliceAt, Instr.slice, run_underlying ht, Instr.sliceBounds, Instr.sliceBound, asIntOf, a2, a3, sizeOf, typeInfo, hi', Addr.add]) hn
theorem ixv {τ : TypeId} {bytes i : Nat} {kk : IntKind} {z : Int} (hX : envl g x = some (T.v e off n)) (hY : envl g y = some (T.c (.int kk z))) (hT : SlT P et τ 1 bytes) (hi : z = (i : Int) ∧ i < n) (hn : J P ops fin r (OpS.p (T.q e (off + i)) :: H) (putg t (T.q e (off + i)) g) E) (hg : GuardIs ops g ⟨t, .indexAddr et x y, ty, ps, af, gd⟩ true := by exact gd0) : J P ops fin (⟨t, .indexAddr et x y, ty, ps, af, gd⟩ :: r) H g E :=
  j_val hg (ok_pure fun ρ β u w F hs he hH => by
    obtain ⟨q, m, k, k1, k2, ev⟩ := he x (by simp [Op.operands]) _ hX
    have hy : ρ y = .int kk (i : Int) := by rw [← hi.1]; exact he y (by simp [Op.operands]) _ hY
    exact ⟨_, run_index hT ev hy hi.2, q, m, k, k1, by simp [Addr.add]⟩) hn
/-- x[:hi] of a row of one's own. -/
theorem sho {hi : Nat} {zh : Operand} {b' : Int} {kk' : IntKind} {τ : TypeId} {bytes : Nat} (hX : envl g x = some (T.o e)) (hE : lkE E e = some (Ent.row c τ xs)) (hT : SlT P et τ 1 bytes) (hhi : envl g zh = some (T.c (.int kk' b'))) (hh : b' = (hi : Int) ∧ hi ≤ xs.length ∧ 0 < xs.length) (hn : J P ops fin r (⟨[e], [], [], [], T.v e 0 hi⟩ :: H) (putg t (T.v e 0 hi) g) E) (hg : GuardIs ops g ⟨t, .slice et x none (some zh) none, ty, ps, af, gd⟩ true := by exact gd0) : J P ops fin (⟨t, .slice et x none (some zh) none, ty, ps, af, gd⟩ :: r) H g E :=
  j_use hE hg (fun ρ β u w F hs he hH => by
    obtain ⟨rfl, h2, h0⟩ := hh
    obtain ⟨k1, _⟩ := he x (by simp [Op.operands]) _ hX
    have hz : ρ zh = _ := he zh (by simp [Op.operands]) _ hhi
    obtain ⟨zs, o1, o2, o3⟩ := hH.hold e _ lk1_same
    obtain ⟨ht, inf, z, hi', hz0, hz1, hz2, hzc⟩ := hT.info
    rcases o1.2 with ⟨_, hn⟩ | ⟨q, k, cur, ev, _, _, hc, _⟩
    · omega
    · have a2 : (0 : Int) ≤ hi ∧ (hi : Int) ≤ ((k : Nat) : Int) := by omega
      have a3 : hi ≤ k := by omega
      have hx : ρ x = .slice (some ⟨q, 0, none⟩) xs.length k := by rw [k1, ev]
      unfold Res
      rw [show (execOp ρ ⟨t, .slice et x none (some zh) none, ty, ps, af, gd⟩).run P w = .ok (.value (.slice (some ⟨q, 0, none⟩) hi k)) w from by
        simp [execOp, hx, hz, Instr.sliceAt, Instr.slice, run_underlying ht, Instr.sliceBounds, Instr.sliceBound, asIntOf, a2, a3, sizeOf, typeInfo, hi', Addr.add]]
      exact after_pure hs ⟨q, _, k, ev, by omega, by simp⟩) hn
/-- append to the head of a row of one's own. -/
theorem apv {τ : TypeId} {bytes : Nat} (e' : Nat) [hl : IsL Y c ys] (hX : envl g x = some (T.v e 0 n)) (hE : lkE E e = some (Ent.row c τ xs)) (hY : envl g y = some Y) (hT : SlT P et τ c.sz bytes) (hb : n ≤ xs.length ∧ (n + ys.length) * bytes ≤ 140737488355328) (h0 : 0 < bytes)
    (hn : J P ops fin r (⟨[], [e], [(e', Ent.row c τ (xs.take n ++ ys))], [e'], T.o e'⟩ :: H) (putg t (T.o e') g) ((e', some (Ent.row c τ (xs.take n ++ ys))) :: (e, none) :: E)) (hne : Nat.beq e' e = false := by rfl) (hg : GuardIs ops g ⟨t, .call ⟨.builtin .append, #[x, y], #[et, et]⟩, ty, ps, af, gd⟩ true := by exact gd0) : J P ops fin (⟨t, .call ⟨.builtin .append, #[x, y], #[et, et]⟩, ty, ps, af, gd⟩ :: r) H g E := by
  have hne' : e' ≠ e := fun h => by subst h; simp at hne
  refine ⟨⟨[], [e], [(e', Ent.row c τ (xs.take n ++ ys))], [e'], T.o e'⟩, (e', some (Ent.row c τ (xs.take n ++ ys))) :: (e, none) :: E, .inl ⟨hg, fun f he => ⟨Ent.row c τ xs, by rw [show f = e from by simpa using he]; exact hE⟩, ?_⟩, fun f => ?_, hn⟩
  · have : (fun f => if f ∈ (OpS.mk [] [e] [(e', Ent.row c τ (xs.take n ++ ys))] [e'] (T.o e')).uses ++ (OpS.mk [] [e] [(e', Ent.row c τ (xs.take n ++ ys))] [e'] (T.o e')).cons then lkE E f else none) = lk [(e, Ent.row c τ xs)] := funext fun f => by
      rw [lk_cons]
      by_cases h : e = f
      · subst h; rw [if_pos (by simp), if_pos rfl, hE]
      · rw [if_neg (by simp; exact fun h' => h h'.symm), if_neg h]; rfl
    rw [this]
    intro ρ β u w F hs he hH
    obtain ⟨q, m, k, h1, h2, h3⟩ := he x (by simp [Op.operands, Call.operands]) _ hX
    have hy := (T.l c ys).ext (β' := B0) (fun _ h => by cases h) (hl.le _ _ _ (he y (by simp [Op.operands, Call.operands]) _ hY))
    obtain ⟨zs, k1, k2, k3⟩ := hH.hold e _ lk1_same
    have hlen : (xs.take n).length = n := by rw [List.length_take]; omega
    have k1' : w.ownsRow 0 τ c.sz (.slice (some ⟨q, 0, none⟩) n k) (xs.take n).length (zs.take (n * c.sz)) := by
      rw [hlen]
      have hz := k1.1
      refine ⟨by rw [List.length_take, hz, Nat.min_eq_left (Nat.mul_le_mul_right _ hb.1)], .inr ?_⟩
      rcases k1.2 with ⟨ev, _⟩ | ⟨q', cap, cur, ev, o1, o2, o3, o4, o5, o6⟩
      · rw [h1] at ev; cases ev
      · rw [h1] at ev; cases ev
        exact ⟨q, k, cur, rfl, o1, o2, by omega, o4, o5, by rw [← o6, List.take_take, Nat.min_eq_left (Nat.mul_le_mul_right _ hb.1)]⟩
    have k2' : Els c (xs.take n) u (zs.take (n * c.sz)) := Els.take n k2 hb.1
    obtain ⟨v', w', hr, ho, hgw, hv, hsl⟩ := run_append (ty := ty) hT k1' k2' hy hs (by rw [hlen]; exact hb.2) h0
    have hob : (Value.slice (some ⟨q, 0, none⟩) n k).ownBlock = (β e).ownBlock := by rw [h1]; rfl
    rw [show (Value.slice (some ⟨q, 0, none⟩) n k) = ρ x from by rw [h3]; simp] at hr
    rw [hob] at hgw hv
    unfold Res
    simp only [execOp, resolve, invoke, builtin, Sem.run_bind, Sem.run_pure, Result.andThen_ok, List.map_toArray, List.map_cons, List.map_nil, hr]
    exact after_row hH hs hgw ho hv (β' := setE β e' v') (fun f hf => setE_ne _ _ (by simpa using hf)) (setE_same _ _ _) ⟨(setE_same _ _ _).symm, hsl⟩
  · unfold lkE OpS.upd
    rw [lk_cons, lk_cons, lk_cons]
    by_cases h : e' = f
    · rw [if_pos h, if_pos h]; rfl
    · rw [if_neg h, if_neg h]
      show _ = if [e].contains f then none else _
      by_cases h2 : e = f
      · subst h2; simp
      · rw [if_neg h2, if_neg (by simpa using fun h3 => h2 h3.symm)]
/-- A call that makes memory. -/
theorem can {f : FuncId} {zs : Array Operand} {tys : Array TypeId} {As Bs : List T} {Z : Ent} (hA : envs g zs.toList = some As)
    (hl : LeL As Bs := by repeat (first | exact trivial | refine ⟨?_, ?_⟩ | exact T.le.refl _ | exact IsZ.le | exact IsL2.le | exact IsL.le | exact q_le _ _ | exact l_L (by assumption) (by assumption) (by assumption) | assumption))
    (h : Fn P f Bs [] [(e, Z)] [e] X) (hn : J P ops fin r (⟨[], [], [(e, Z)], [e], X⟩ :: H) (putg t X g) ((e, some Z) :: E)) (hen : Enters P f := by intro a w; kernel_rfl)
    (hg : GuardIs ops g ⟨t, .call ⟨.value (.func f), zs, tys⟩, ty, ps, af, gd⟩ true := by exact gd0) : J P ops fin (⟨t, .call ⟨.value (.func f), zs, tys⟩, ty, ps, af, gd⟩ :: r) H g E :=
  j_new hg (fun ρ β u w F hs he hH => by
    have hf : ρ (.func f) = .func (.func f) #[] #[] := he (.func f) (show Operand.func f ∈ (#[Operand.func f] ++ zs : Array Operand) from by simp) _ rfl
    have hre := envs_reps (β := β) (u := u) (ρ := ρ) hA (fun x hx Y hY => he x (show x ∈ (#[Operand.func f] ++ zs : Array Operand) from Array.mem_append_right _ (by simpa using hx)) Y hY)
    have := h _ β u w F hs (hre.le hl) (Hold.none _ _ _ _)
    unfold Res
    rw [show (execOp ρ ⟨t, .call ⟨.value (.func f), zs, tys⟩, ty, ps, af, gd⟩).run P w = .ok (.enter f (zs.toList.map ρ).toArray) w from by
      simp only [execOp, resolve, hf, Deferred.ofValue, Sem.run_bind, Sem.run_pure, Result.andThen_ok, invoke, hen _ w]
      congr 2
      apply Array.ext'; simp]
    exact this) hn
/-- A call that writes to memory. -/
theorem cas {f : FuncId} {zs : Array Operand} {tys : Array TypeId} {As Bs : List T} {Z Z' : Ent} (hA : envs g zs.toList = some As)
    (hl : LeL As Bs := by repeat (first | exact trivial | refine ⟨?_, ?_⟩ | exact T.le.refl _ | exact IsZ.le | exact IsL2.le | exact IsL.le | exact q_le _ _ | exact l_L (by assumption) (by assumption) (by assumption) | assumption))
    (hE : lkE E e = some Z) (h : Fn P f Bs [(e, Z)] [(e, Z')] [] X) (hn : J P ops fin r (⟨[], [e], [(e, Z')], [], X⟩ :: H) (putg t X g) ((e, some Z') :: E)) (hen : Enters P f := by intro a w; kernel_rfl)
    (hg : GuardIs ops g ⟨t, .call ⟨.value (.func f), zs, tys⟩, ty, ps, af, gd⟩ true := by exact gd0) : J P ops fin (⟨t, .call ⟨.value (.func f), zs, tys⟩, ty, ps, af, gd⟩ :: r) H g E :=
  j_set hE hg (fun ρ β u w F hs he hH => by
    have hf : ρ (.func f) = .func (.func f) #[] #[] := he (.func f) (show Operand.func f ∈ (#[Operand.func f] ++ zs : Array Operand) from by simp) _ rfl
    have hre := envs_reps (β := β) (u := u) (ρ := ρ) hA (fun x hx Y hY => he x (show x ∈ (#[Operand.func f] ++ zs : Array Operand) from Array.mem_append_right _ (by simpa using hx)) Y hY)
    have := h _ β u w F hs (hre.le hl) hH
    unfold Res
    rw [show (execOp ρ ⟨t, .call ⟨.value (.func f), zs, tys⟩, ty, ps, af, gd⟩).run P w = .ok (.enter f (zs.toList.map ρ).toArray) w from by
      simp only [execOp, resolve, hf, Deferred.ofValue, Sem.run_bind, Sem.run_pure, Result.andThen_ok, invoke, hen _ w]
      congr 2
      apply Array.ext'; simp]
    exact this) hn
theorem eq_bool0 {t1 : TypeId} (hu : P.underlying t1 = some .bool) (d : Nat) (a b : Bool) (w : World) : (Op.equalIn (d + 1) t1 (.bool a) (.bool b)).run P w = .ok (a == b) w := by simp [Op.equalIn, run_underlying hu]
theorem eq_bool {t1 : TypeId} (hu : P.underlying t1 = some .bool) (a b : Bool) (w : World) : (Op.equalIn Op.maxDepth t1 (.bool a) (.bool b)).run P w = .ok (a == b) w := eq_bool0 hu 9999 a b w
/-- Truth values compared. -/
theorem eqb {t1 t2 : TypeId} {a b : Bool} {q : Bool} (hX : envl g x = some (T.c (.bool a))) (hY : envl g y = some (T.c (.bool b))) (hq : (a == b) = q) (hn : J P ops fin r (OpS.p (T.c (.bool q)) :: H) (putg t (T.c (.bool q)) g) E) (hg : GuardIs ops g ⟨t, .binOp .eql t1 x y t2, ty, ps, af, gd⟩ true := by exact gd0) (hu : P.underlying t1 = some .bool := by kernel_rfl) : J P ops fin (⟨t, .binOp .eql t1 x y t2, ty, ps, af, gd⟩ :: r) H g E :=
  bop hX hY (fun ρ w h1 h2 => by simp [execOp, h1, h2, eqGuard, binOp, Op.equal, eq_bool hu, ← hq]) hn hg
theorem neb {t1 t2 : TypeId} {a b : Bool} {q : Bool} (hX : envl g x = some (T.c (.bool a))) (hY : envl g y = some (T.c (.bool b))) (hq : (!(a == b)) = q) (hn : J P ops fin r (OpS.p (T.c (.bool q)) :: H) (putg t (T.c (.bool q)) g) E) (hg : GuardIs ops g ⟨t, .binOp .neq t1 x y t2, ty, ps, af, gd⟩ true := by exact gd0) (hu : P.underlying t1 = some .bool := by kernel_rfl) : J P ops fin (⟨t, .binOp .neq t1 x y t2, ty, ps, af, gd⟩ :: r) H g E :=
  bop hX hY (fun ρ w h1 h2 => by simp [execOp, h1, h2, eqGuard, binOp, Op.equal, eq_bool hu, bne, ← hq]) hn hg
/-- Wrapping: into 64 bits, turned about in 64 bits. -/
theorem cvw {src dst : TypeId} {k1 : IntKind} {a : Int} (z : Int) (hX : envl g x = some (T.c (.int k1 a))) (hc : Cv P src dst .u64) (hz : a % 18446744073709551616 = z) (hn : J P ops fin r (OpS.p (T.c (.int .u64 z)) :: H) (putg t (T.c (.int .u64 z)) g) E) (hg : GuardIs ops g ⟨t, .convert src dst x, ty, ps, af, gd⟩ true := by exact gd0) : J P ops fin (⟨t, .convert src dst x, ty, ps, af, gd⟩ :: r) H g E :=
  j_val hg (ok_pure fun ρ β u w F hs he hH => ⟨.int .u64 z, by
    have h1 : ρ x = .int k1 a := he x (by simp [Op.operands]) _ hX
    simp only [execOp, h1, Sem.run_bind, run_convert hc.1 hc.2, Result.andThen_ok, Sem.run_pure, IntKind.wrap_u64, hz], rfl⟩) hn
theorem ngm {t1 : TypeId} {a : Int} (z : Int) (hX : envl g x = some (T.c (.int .u64 a))) (hz : (0 - a) % 18446744073709551616 = z) (hn : J P ops fin r (OpS.p (T.c (.int .u64 z)) :: H) (putg t (T.c (.int .u64 z)) g) E) (hg : GuardIs ops g ⟨t, .unOp .neg t1 x, ty, ps, af, gd⟩ true := by exact gd0) : J P ops fin (⟨t, .unOp .neg t1 x, ty, ps, af, gd⟩ :: r) H g E :=
  uop hX (fun ρ w h1 => by
    have : (-a) % 18446744073709551616 = z := by rw [← hz]; congr 1; omega
    simp [execOp, h1, Op.unary, Op.intArith, IntKind.wrap_u64, this]) hn hg
theorem range_1 : Array.range 1 = #[0] := by decide
theorem range_2 : Array.range 2 = #[0, 1] := by decide
theorem els_cU (u : World) : ∀ ls : List Int, Els cU ls u (ls.map fun a => Value.int .u32 a)
  | [] => rfl
  | a :: r => ⟨.int .u32 a, _, by show (1 : Nat) ≠ 0; omega, rfl, rfl, els_cU u r⟩
theorem after_lit {w u : World} {β : Env} {F : FP} (τ : TypeId) {ls : List Int} (hs : Sub u w) (hl : ls.length ≤ 281474976710656) (h0 : 0 < ls.length) : After β u w F [] (lk []) [] (T.l cU ls) (.slice (some ⟨w.heap.size, 0, none⟩) ls.length ls.length) (w.alloc (.cells (ls.map fun a => Value.int .u32 a).toArray τ (0, 0))) := by
  have hg := World.grownBy_alloc w (.cells (ls.map fun a => Value.int .u32 a).toArray τ (0, 0)) none
  have hsw : Sub u (w.alloc (.cells (ls.map fun a => Value.int .u32 a).toArray τ (0, 0))) := fun a y hy => hg.cell (hs a y hy) (fun h => by cases h)
  have hd : ∀ k, k = w.heap.size → Dead u k := fun k hk a ha => by
    cases hc : u.cell? a with
    | none => rfl
    | some y =>
      have := hs a y hc
      subst hk
      unfold World.cell? at this
      rw [ha, Array.getElem?_eq_none (Nat.le_refl _)] at this
      cases this
  have hh : (w.alloc (.cells (ls.map fun a => Value.int .u32 a).toArray τ (0, 0))).heap[w.heap.size]? = some (.cells (ls.map fun a => Value.int .u32 a).toArray τ (0, 0)) := heap_alloc_new w _
  refine ⟨solid u (w.alloc (.cells (ls.map fun a => Value.int .u32 a).toArray τ (0, 0))) (· = w.heap.size), β, F, fun _ _ => rfl, ⟨hg.os, hg.tape, hg.output, hg.size, fun k hk _ => hg.block k hk (fun h => by cases h), solid_up hsw hd, solid_sub hsw, fun k hk _ hdk => solid_dead hsw (by omega) hdk⟩, Hold.none _ _ _ _, fun e X k h => (by cases h), _, _, _, rfl, rfl, Nat.le_refl _, by omega, fun _ => ⟨_, rfl, ls.map fun a => Value.int .u32 a, ?_, fun j y hy => ?_⟩⟩
  · exact els_cU _ ls
  · rw [add_none, Nat.zero_add, solid_in (S := (· = w.heap.size)) hsw rfl, cell_of_row _ _ j _ τ (0, 0) hh]
    simpa using hy
/-- A new row that is written to no more. -/
theorem after_fz {α : Type} {c : Cod α} {β : Env} {u w w' : World} {F : FP} {C N : List Nat} {e' : Nat} {τ : TypeId} {l : List α} {v : Value} (h : After β u w F C (lk [(e', Ent.row c τ l)]) N (T.o e') v w') : After β u w F C (lk []) [] (T.l c l) v w' := by
  obtain ⟨u', β', F', hb, ht, hO, hF, hR⟩ := h
  have hs := ht.sub
  have hd : ∀ k, F' e' k → Dead u' k := fun k hk => (hO.dead e' _ k lk1_same hk).1
  obtain ⟨xs, k1, k2, k3⟩ := hO.hold e' _ lk1_same
  have hup := solid_up hs hd
  refine ⟨solid u' w' (F' e'), β, F, fun _ _ => rfl, ⟨ht.os, ht.tape, ht.output, ht.size, ht.block, ht.old.trans hup, solid_sub hs, fun k hk hc hdk => solid_dead hs (fun hk' => ?_) (ht.dead k hk hc hdk)⟩, Hold.none _ _ _ _, fun e X k h => (by cases h), ?_⟩
  · rcases hF e' _ k lk1_same hk' with h1 | h1
    · exact hc h1
    · omega
  · obtain ⟨q2, _⟩ := hR
    rw [q2]
    rcases k1.2 with ⟨ev, hn⟩ | ⟨q, cap, cur, ev, hg0, hh, hc1, hc2, hc3, hc4⟩
    · rw [ev]
      exact ⟨none, 0, 0, rfl, hn, Nat.le_refl _, by omega, fun h => absurd h (by omega)⟩
    · refine ⟨_, _, _, ev, rfl, hc1, by unfold maxLen at hc2; omega, fun hp => ⟨_, rfl, xs, k2.mono hup, fun j y hy => ?_⟩⟩
      have hq : F' e' q := (k3 q).2 (by rw [ev]; rfl)
      rw [add_none, Nat.zero_add, solid_in hs hq, cell_of_row w' q j cur τ (0, 0) hh]
      rw [← hc4] at hy
      rw [List.getElem?_take] at hy
      split at hy
      · simpa using hy
      · cases hy
/-- append to a row of one's own, which is written to no more. -/
theorem apf {α : Type} {c : Cod α} {xs ys : List α} {τ : TypeId} {bytes : Nat} [hl : IsL Y c ys] (hX : envl g x = some (T.o e)) (hE : lkE E e = some (Ent.row c τ xs)) (hY : envl g y = some Y) (hT : SlT P et τ c.sz bytes) (hb : (xs.length + ys.length) * bytes ≤ 140737488355328) (h0 : 0 < bytes)
    (hn : J P ops fin r (⟨[], [e], [], [], T.l c (xs ++ ys)⟩ :: H) (putg t (T.l c (xs ++ ys)) g) ((e, none) :: E)) (hg : GuardIs ops g ⟨t, .call ⟨.builtin .append, #[x, y], #[et, et]⟩, ty, ps, af, gd⟩ true := by exact gd0) : J P ops fin (⟨t, .call ⟨.builtin .append, #[x, y], #[et, et]⟩, ty, ps, af, gd⟩ :: r) H g E := by
  refine ⟨⟨[], [e], [], [], T.l c (xs ++ ys)⟩, (e, none) :: E, .inl ⟨hg, fun f he => ⟨Ent.row c τ xs, by rw [show f = e from by simpa using he]; exact hE⟩, ?_⟩, fun f => ?_, hn⟩
  · have : (fun f => if f ∈ (OpS.mk [] [e] [] [] (T.l c (xs ++ ys))).uses ++ (OpS.mk [] [e] [] [] (T.l c (xs ++ ys))).cons then lkE E f else none) = lk [(e, Ent.row c τ xs)] := funext fun f => by
      rw [lk_cons]
      by_cases h : e = f
      · subst h; rw [if_pos (by simp), if_pos rfl, hE]
      · rw [if_neg (by simp; exact fun h' => h h'.symm), if_neg h]; rfl
    rw [this]
    intro ρ β u w F hs he hH
    obtain ⟨h1, A, n, k, h2⟩ := he x (by simp [Op.operands, Call.operands]) _ hX
    have hy := (T.l c ys).ext (β' := B0) (fun _ h => by cases h) (hl.le _ _ _ (he y (by simp [Op.operands, Call.operands]) _ hY))
    obtain ⟨zs, k1, k2, k3⟩ := hH.hold e _ lk1_same
    rw [← h1] at k1
    obtain ⟨v', w', hr, ho, hgw, hv, hsl⟩ := run_append (ty := ty) hT k1 k2 hy hs hb h0
    unfold Res
    simp only [execOp, resolve, invoke, builtin, Sem.run_bind, Sem.run_pure, Result.andThen_ok, List.map_toArray, List.map_cons, List.map_nil, hr]
    exact after_fz (after_row hH hs (by rw [← h1]; exact hgw) ho (by rw [← h1]; exact hv) (e' := e + 1) (N := [e + 1]) (β' := setE β (e + 1) v') (fun f hf => setE_ne _ _ (by simpa using hf)) (setE_same _ _ _) ⟨(setE_same _ _ _).symm, hsl⟩)
  · unfold lkE OpS.upd
    rw [lk_cons]
    by_cases h2 : e = f
    · subst h2; simp [lk]
    · rw [if_neg h2]
      simp [lk, Ne.symm h2]
/-- []T{a}: a row of one's own. -/
theorem bo1 {τ : TypeId} {bytes : Nat} {a : Int} (e : Nat) (hX : envl g x = some (T.c (.int .u32 a))) (hT : SlT P et τ 1 bytes) (hz : (P.info? τ).bind (·.zero) = some (.int .u32 0)) (hn : J P ops fin r (⟨[], [], [(e, Ent.row cU τ [a])], [e], T.o e⟩ :: H) (putg t (T.o e) g) ((e, some (Ent.row cU τ [a])) :: E)) (hg : GuardIs ops g ⟨t, .buildSlice et 1 #[(0, x)], ty, ps, af, gd⟩ true := by exact gd0) : J P ops fin (⟨t, .buildSlice et 1 #[(0, x)], ty, ps, af, gd⟩ :: r) H g E :=
  j_new hg (fun ρ β u w F hs he hH => by
    have hx : ρ x = _ := he x (by simp [Op.operands]) _ hX
    obtain ⟨ht, inf, z, hi', hz0, hz1, hz2, hzc⟩ := hT.info
    rw [hi', Option.bind_some, hz0] at hz
    cases hz
    unfold Res
    rw [show (execOp ρ ⟨t, .buildSlice et 1 #[(0, x)], ty, ps, af, gd⟩).run P w = .ok (.value (.slice (some ⟨w.heap.size, 0, none⟩) 1 1)) (w.alloc (.cells #[.int .u32 a] τ (0, 0))) from by
      simp [execOp, hx, Instr.buildSlice, run_underlying ht, sizeOf, typeInfo, hi', hz0, hz1, zeroValue, Value.cells, Instr.fill, newRow, range_1]]
    refine after_newrow hs (World.grownBy_alloc _ _ _) ⟨[.int .u32 a], ?_, els_cU _ [a]⟩ (.inr rfl) ⟨_, _, _, rfl⟩
    exact World.ownsRow_lit (w := w) (base := 0) (e := τ) (size := 1) #[.int .u32 a] 1 (Nat.zero_le _) (by unfold maxLen; omega) rfl) hn
/-- []T{a}, []T{a, b}: of limbs. -/
theorem bl1 {τ : TypeId} {bytes : Nat} {a : Int} (hX : envl g x = some (T.c (.int .u32 a))) (hT : SlT P et τ 1 bytes) (hz : (P.info? τ).bind (·.zero) = some (.int .u32 0)) (hn : J P ops fin r (OpS.p (T.l cU [a]) :: H) (putg t (T.l cU [a]) g) E) (hg : GuardIs ops g ⟨t, .buildSlice et 1 #[(0, x)], ty, ps, af, gd⟩ true := by exact gd0) : J P ops fin (⟨t, .buildSlice et 1 #[(0, x)], ty, ps, af, gd⟩ :: r) H g E :=
  j_val hg (fun ρ β u w F hs he hH => by
    have hx : ρ x = _ := he x (by simp [Op.operands]) _ hX
    obtain ⟨ht, inf, z, hi', hz0, hz1, hz2, hzc⟩ := hT.info
    rw [hi', Option.bind_some, hz0] at hz
    cases hz
    have := after_lit (β := β) (F := F) (ls := [a]) τ hs (by simp) (by simp)
    unfold Res
    rw [show (execOp ρ ⟨t, .buildSlice et 1 #[(0, x)], ty, ps, af, gd⟩).run P w = .ok (.value (.slice (some ⟨w.heap.size, 0, none⟩) 1 1)) (w.alloc (.cells #[.int .u32 a] τ (0, 0))) from by
      simp [execOp, hx, Instr.buildSlice, run_underlying ht, sizeOf, typeInfo, hi', hz0, hz1, zeroValue, Value.cells, Instr.fill, newRow, range_1]]
    exact this) hn
theorem bl2 {τ : TypeId} {bytes : Nat} {a d : Int} (hX : envl g x = some (T.c (.int .u32 a))) (hY : envl g y = some (T.c (.int .u32 d))) (hT : SlT P et τ 1 bytes) (hz : (P.info? τ).bind (·.zero) = some (.int .u32 0)) (hn : J P ops fin r (OpS.p (T.l cU [a, d]) :: H) (putg t (T.l cU [a, d]) g) E) (hg : GuardIs ops g ⟨t, .buildSlice et 2 #[(0, x), (1, y)], ty, ps, af, gd⟩ true := by exact gd0) : J P ops fin (⟨t, .buildSlice et 2 #[(0, x), (1, y)], ty, ps, af, gd⟩ :: r) H g E :=
  j_val hg (fun ρ β u w F hs he hH => by
    have hx : ρ x = _ := he x (by simp [Op.operands]) _ hX
    have hy : ρ y = _ := he y (by simp [Op.operands]) _ hY
    obtain ⟨ht, inf, z, hi', hz0, hz1, hz2, hzc⟩ := hT.info
    rw [hi', Option.bind_some, hz0] at hz
    cases hz
    have := after_lit (β := β) (F := F) (ls := [a, d]) τ hs (by simp) (by simp)
    unfold Res
    rw [show (execOp ρ ⟨t, .buildSlice et 2 #[(0, x), (1, y)], ty, ps, af, gd⟩).run P w = .ok (.value (.slice (some ⟨w.heap.size, 0, none⟩) 2 2)) (w.alloc (.cells #[.int .u32 a, .int .u32 d] τ (0, 0))) from by
      simp [execOp, hx, hy, Instr.buildSlice, run_underlying ht, sizeOf, typeInfo, hi', hz0, hz1, zeroValue, Value.cells, Instr.fill, newRow, range_2]]
    exact this) hn
end
section
variable {P : Program} {x : Code} {Q : Exit → Act → World → Prop} {ctx : Ctx} {n : Nat} {g : List (Nat × T)} {E : List (Nat × Option Ent)} {α : Type} {c : Cod α} {l : List α} {τ : TypeId}
/-- A row as a view. -/
theorem tri_ov (t e m : Nat) (ht : lk g t = some (T.o e)) (hE : lkE E e = some (Ent.row c τ l)) (hl : m = l.length ∧ 0 < m) (h : Tri P x Q ctx n ((t, T.v e 0 m) :: g) E) : Tri P x Q ctx n g E := fun a w hS => h a w (by
  obtain ⟨rfl, hl⟩ := hl
  obtain ⟨β, u, F, h1, h2, h3, h4, h5, h6, h7⟩ := hS
  refine ⟨β, u, F, h1, h2, fun t' X hX => ?_, h4, h5, h6, h7⟩
  rw [lk_cons] at hX
  split at hX
  · rename_i e1
    subst e1
    cases hX
    obtain ⟨v, q1, q2, q3⟩ := h3 t _ ht
    obtain ⟨zs, k1, k2, k3⟩ := h4.hold e _ hE
    rcases k1.2 with ⟨ev, hn⟩ | ⟨q, k, cur, ev, _, _, hc, _⟩
    · omega
    · exact ⟨v, q1, q, _, k, ev, by omega, by rw [q2, ev]; simp⟩
  · exact h3 t' X hX)
/-- The head of a row that is written to no more. -/
theorem tri_rdv (t e m : Nat) (ht : lk g t = some (T.v e 0 m)) (hE : lkE E e = some (Ent.frz c l)) (hm : m ≤ l.length) (h : Tri P x Q ctx n ((t, T.l c (l.take m)) :: g) E) : Tri P x Q ctx n g E := fun a w hS => h a w (by
  obtain ⟨β, u, F, h1, h2, h3, h4, h5, h6, h7⟩ := hS
  refine ⟨β, u, F, h1, h2, fun t' X hX => ?_, h4, h5, h6, h7⟩
  rw [lk_cons] at hX
  split at hX
  · rename_i e1
    subst e1
    cases hX
    obtain ⟨v, q1, b, p, k, q2, q3, q4⟩ := h3 t _ ht
    have hf := (h4.hold e _ hE).2
    rw [q2] at hf
    have := cut_rep (lo := 0) (B := some ⟨b, 0, none⟩) hf (Nat.zero_le _) hm (fun _ => by simp [Addr.add])
    exact ⟨v, q1, (T.l c _).ext (β := B0) (fun _ h => by cases h) (by rw [q4]; simpa using this)⟩
  · exact h3 t' X hX)
end
section
variable {P : Program} {x : Code} {Q : Exit → Act → World → Prop} {ctx : Ctx} {n : Nat} {g : List (Nat × T)} {E : List (Nat × Option Ent)}
/-- A whole number, laid open. -/
theorem tri_zi (t : Nat) {z : Int} {k : Nat} (ht : lk g t = some (T.Zi z k)) (h : ∀ (s : Bool) (M : Nat) (xs : List Int), Lim xs → val xs = M → xs.length ≤ k → z = intv s M → (T.st [T.c (.bool s), T.l cU xs]).le (T.Zi (intv s M) k) → Tri P x Q ctx n ((t, T.st [T.c (.bool s), T.l cU xs]) :: g) E) : Tri P x Q ctx n g E :=
  tri_ex t ht fun ⟨s, xs⟩ ⟨h1, h2, h3⟩ => by
    obtain ⟨M, hM⟩ := Int.eq_ofNat_of_zero_le (val_nonneg h1)
    have e : z = intv s M := by rw [h2]; show iv s (val xs) = _; rw [hM]; rfl
    exact h s M xs h1 hM h3 e (zi_of h1 (by show _ = iv s (val xs); rw [hM]; rfl) h3)
theorem pn_sub {K : Act → World → Prop} {g' : List (Nat × T)} {E' : List (Nat × Option Ent)} (hg : SubG g' g) (hE : SubE E' E) (h : PN ctx n K g' E') : PN ctx n K g E := fun a w hS => h a w (hS.sub hg hE)
/-- A row of one's own gets another name. -/
theorem pn_ren {α : Type} {c : Cod α} {l : List α} {τ : TypeId} {K : Act → World → Prop} (t e e' : Nat) (ht : lk g t = some (T.o e')) (hE : lkE E e' = some (Ent.row c τ l)) (hf : ((nsOf g ++ nsE E ++ ctx.I).contains e) = false) (h : PN ctx n K ((t, T.o e) :: g) ((e, some (Ent.row c τ l)) :: (e', none) :: E)) : PN ctx n K g E := fun a w hS => h a w (by
  obtain ⟨β, u, F, h1, h2, h3, h4, h5, h6, h7⟩ := hS
  have hfr : e ∉ nsOf g ∧ e ∉ nsE E ∧ e ∉ ctx.I := by
    simp only [List.contains_eq_mem, decide_eq_false_iff_not, List.mem_append, not_or] at hf
    exact ⟨hf.1.1, hf.1.2, hf.2⟩
  have hne : e ≠ e' := fun h => hfr.2.1 (h ▸ (lkE_base hE).1)
  have hb : ∀ f, f ≠ e → setE β e (β e') f = β f := fun f hne => setE_ne _ _ hne
  have hlk : ∀ f, lkE ((e, some (Ent.row c τ l)) :: (e', none) :: E) f = if e = f then some (Ent.row c τ l) else if e' = f then none else lkE E f := fun f => by
    unfold lkE
    rw [lk_cons, lk_cons]
    by_cases h : e = f
    · rw [if_pos h, if_pos h]; rfl
    · rw [if_neg h, if_neg h]
      by_cases h2 : e' = f
      · rw [if_pos h2, if_pos h2]; rfl
      · rw [if_neg h2, if_neg h2]
  have key : ∀ f X, lkE ((e, some (Ent.row c τ l)) :: (e', none) :: E) f = some X → (f = e ∧ X = Ent.row c τ l) ∨ (f ≠ e ∧ f ≠ e' ∧ lkE E f = some X) := fun f X hX => by
    rw [hlk] at hX
    split at hX
    · rename_i h; cases hX; exact .inl ⟨h.symm, rfl⟩
    · split at hX
      · cases hX
      · rename_i h h2; exact .inr ⟨Ne.symm h, Ne.symm h2, hX⟩
  refine ⟨setE β e (β e'), u, fun f k => if f = e then F e' k else F f k, h1, h2, fun t' X hX => ?_, ⟨fun f X hX => ?_, fun f X k hX hk => ?_, fun f f' X Y k hX hY hn hk hk' => ?_⟩, h5, fun f X k hX hk => ?_, fun f hf => (hb f (fun h => hfr.2.2 (h ▸ hf))).trans (h7 f hf)⟩
  · rw [lk_cons] at hX
    split at hX
    · rename_i e1
      subst e1
      cases hX
      obtain ⟨v, q1, q2, q3⟩ := h3 t _ ht
      exact ⟨v, q1, by rw [setE_same]; exact q2, q3⟩
    · obtain ⟨v, q1, q2⟩ := h3 t' X hX
      exact ⟨v, q1, X.ext (fun q hq => hb q (fun h => hfr.1 (h ▸ lk_base hX q hq))) q2⟩
  · rcases key f X hX with ⟨rfl, rfl⟩ | ⟨n1, n2, hX'⟩
    · rw [setE_same, show (fun k => if f = f then F e' k else F f k) = F e' from funext fun k => if_pos rfl]
      exact (Ent.row c τ l).ext (fun q hq => by cases hq) (h4.hold e' _ hE)
    · rw [hb f n1, show (fun k => if f = e then F e' k else F f k) = F f from funext fun k => if_neg n1]
      exact X.ext (fun q hq => hb q (fun h => hfr.2.1 (h ▸ (lkE_base hX').2 q hq))) (h4.hold f X hX')
  · rcases key f X hX with ⟨rfl, rfl⟩ | ⟨n1, n2, hX'⟩
    · simp only [if_true] at hk; exact h4.dead e' _ k hE hk
    · simp only [if_neg n1] at hk; exact h4.dead f X k hX' hk
  · rcases key f X hX with ⟨rfl, rfl⟩ | ⟨n1, n2, hX'⟩ <;> rcases key f' Y hY with ⟨rfl, rfl⟩ | ⟨m1, m2, hY'⟩
    · exact hn rfl
    · simp only [if_true] at hk; simp only [if_neg m1] at hk'; exact h4.apart e' f' _ Y k hE hY' (Ne.symm m2) hk hk'
    · simp only [if_true] at hk'; simp only [if_neg n1] at hk; exact h4.apart f e' X _ k hX' hE n2 hk hk'
    · simp only [if_neg n1] at hk; simp only [if_neg m1] at hk'; exact h4.apart f f' X Y k hX' hY' hn hk hk'
  · rcases key f X hX with ⟨rfl, rfl⟩ | ⟨n1, n2, hX'⟩
    · simp only [if_true] at hk; exact h6 e' _ k hE hk
    · simp only [if_neg n1] at hk; exact h6 f X k hX' hk)
end
end Go.Proofs.YtekghdfbhbhigaaGreat.V
/-
  DERIVED: THE SHELF's CONTRACTS AT THIS DUMP, IN PLAIN WORDS (tools/lay-plain.mjs out of 'TryzShelf.lean', which tools/lay-shelf.mjs wrote): THE SAME DECLARATIONS UNDER THE SAME NAMES: 'import', 'namespace', 'open', 'def', 'theorem' AND NOTHING ELSE: no command of the shelf's: FOR A HAND-IN. Each laying: the table of numbers ('.._ren') and one theorem, a field a fact of the dump's own or the kernel's comparison; each contract: ONE APPLICATION.
-/
namespace Go.Proofs
open Go.Shelf
def Tryz.lays128_ren : Go.Shelf.Ren := ⟨fun | 128 => 175 | n => n, fun | 51 => 119 | 3 => 3 | 4 => 4 | 46 => 151 | 5 => 5 | 9 => 9 | n => n, fun | n => n⟩
theorem Tryz.lays128 : Go.Proofs.Lays.n128 Tryz.prog Tryz.lays128_ren := {
  mixed := by kernel_rfl
  f128 := Tryz.func175.trans (congrArg some (by kernel_rfl))
  t3 := Tryz.underlying3
  a3 := Tryz.isAgg3
  z3 := Tryz.sizeOf3
  v3 := Tryz.zeroValue3
  t4 := Tryz.underlying4
  a4 := Tryz.isAgg4
  z4 := Tryz.sizeOf4
  v4 := Tryz.zeroValue4
  t5 := Tryz.underlying5
  a5 := Tryz.isAgg5
  z5 := Tryz.sizeOf5
  v5 := Tryz.zeroValue5
  t9 := Tryz.underlying9
  a9 := Tryz.isAgg9
  z9 := Tryz.sizeOf9
  v9 := Tryz.zeroValue9
  t46 := Tryz.underlying151
  a46 := Tryz.isAgg151
  z46 := Tryz.sizeOf151
  v46 := Tryz.zeroValue151
  t51 := Tryz.underlying119
  a51 := Tryz.isAgg119
  z51 := Tryz.sizeOf119
  v51 := Tryz.zeroValue119 }
/-- bits.Len32: "Len32 returns the minimum number of bits required to represent x; the result is 0 for x == 0.": IT RETURNS 'Lib.bitLen x'; the world is as it was. ('h0', 'h1': x is a uint32.) (LAID: no walk: one application.) -/
theorem Tryz.bits_Len32 (x : Int) (w : World) (h0 : 0 ≤ x) (h1 : x ≤ 4294967295) :
    Calls Tryz.prog 175 #[.int .u32 x] w fun e w' => e = .returned (.int .i64 (Lib.bitLen x.toNat)) ∧ w' = w := Any.bits_Len32 Tryz.lays128 x w h0 h1
def Tryz.lays133_ren : Go.Shelf.Ren := ⟨fun | 133 => 198 | 128 => 175 | n => n, fun | 51 => 119 | 3 => 3 | 4 => 4 | 46 => 151 | 5 => 5 | 9 => 9 | n => n, fun | n => n⟩
theorem Tryz.lays133 : Go.Proofs.Lays.n133 Tryz.prog Tryz.lays133_ren := {
  mixed := by kernel_rfl
  f128 := Tryz.func175.trans (congrArg some (by kernel_rfl))
  f133 := Tryz.func198.trans (congrArg some (by kernel_rfl))
  t3 := Tryz.underlying3
  a3 := Tryz.isAgg3
  z3 := Tryz.sizeOf3
  v3 := Tryz.zeroValue3
  t4 := Tryz.underlying4
  a4 := Tryz.isAgg4
  z4 := Tryz.sizeOf4
  v4 := Tryz.zeroValue4
  t5 := Tryz.underlying5
  a5 := Tryz.isAgg5
  z5 := Tryz.sizeOf5
  v5 := Tryz.zeroValue5
  t9 := Tryz.underlying9
  a9 := Tryz.isAgg9
  z9 := Tryz.sizeOf9
  v9 := Tryz.zeroValue9
  t46 := Tryz.underlying151
  a46 := Tryz.isAgg151
  z46 := Tryz.sizeOf151
  v46 := Tryz.zeroValue151
  t51 := Tryz.underlying119
  a51 := Tryz.isAgg119
  z51 := Tryz.sizeOf119
  v51 := Tryz.zeroValue119 }
/-- bits.LeadingZeros32: "LeadingZeros32 returns the number of leading zero bits in x; the result is 32 for x == 0.": IT RETURNS '32 - Lib.bitLen x'; the world is as it was. ITS CALLEE bits.Len32 IS MET BY ITS OWN CONTRACT OFF THE SHELF (lay that first): entered in place it sends the kernel out of memory. (LAID: no walk: one application.) -/
theorem Tryz.bits_LeadingZeros32 (x : Int) (w : World) (h0 : 0 ≤ x) (h1 : x ≤ 4294967295) :
    Calls Tryz.prog 198 #[.int .u32 x] w fun e w' => e = .returned (.int .i64 (32 - (Lib.bitLen x.toNat : Int))) ∧ w' = w := Any.bits_LeadingZeros32 Tryz.lays133 x w h0 h1
end Go.Proofs
