/- Determinants: the numbers that the data of rows are divided to are whole, and the data say what elimination says. -/
import Derived.Test.YtbihfnjmdpbkgaaGm
set_option linter.unusedVariables false
namespace Go.Proofs.Ytbihfnjmdpbkgaa.V
open Mt Nml
abbrev Rw := Nat → Rat
/-- The sum along a column, row by row. -/
def sm (f : List Rw → Rat) (c : Nat) : List Rw → List Rw → Rat
  | _, [] => 0
  | pre, r :: rest => r c * f (pre ++ rest) - sm f c (pre ++ [r]) rest
/-- The determinant of n rows from column c on. -/
def Dt : Nat → Nat → List Rw → Rat
  | 0, _, _ => 1
  | n + 1, c, l => sm (Dt n (c + 1)) c [] l
def addm (x : Rw) (q : Rat) (y : Rw) : Rw := fun j => x j + q * y j
def LinD (n : Nat) (f : List Rw → Rat) : Prop := ∀ A x y q B, A.length + B.length + 1 = n → f (A ++ addm x q y :: B) = f (A ++ x :: B) + q * f (A ++ y :: B)
def AltD (n : Nat) (f : List Rw → Rat) : Prop := ∀ A x y B, A.length + B.length + 2 = n → f (A ++ x :: y :: B) = -f (A ++ y :: x :: B)
theorem sm_lin_pre {n c : Nat} {f : List Rw → Rat} (hf : LinD n f) {P : List Rw} {x y : Rw} {q : Rat} : ∀ (rest Q : List Rw), P.length + Q.length + rest.length = n → sm f c (P ++ addm x q y :: Q) rest = sm f c (P ++ x :: Q) rest + q * sm f c (P ++ y :: Q) rest
  | [], Q, _ => by show (0 : Rat) = 0 + q * 0; grind
  | r :: rest, Q, h => by
    have e : ∀ z : Rw, sm f c (P ++ z :: Q) (r :: rest) = r c * f (P ++ z :: (Q ++ rest)) - sm f c (P ++ z :: (Q ++ [r])) rest := fun z => by
      show r c * f ((P ++ z :: Q) ++ rest) - sm f c ((P ++ z :: Q) ++ [r]) rest = _
      simp only [List.append_assoc, List.cons_append]
    simp only [List.length_cons] at h
    rw [e, e, e, hf P x y q (Q ++ rest) (by simp only [List.length_append]; omega), sm_lin_pre hf rest (Q ++ [r]) (by simp only [List.length_append, List.length_cons, List.length_nil]; omega)]
    grind
theorem sm_lin {n c : Nat} {f : List Rw → Rat} (hf : LinD n f) {x y : Rw} {q : Rat} {B : List Rw} : ∀ (A pre : List Rw), pre.length + A.length + B.length = n → sm f c pre (A ++ addm x q y :: B) = sm f c pre (A ++ x :: B) + q * sm f c pre (A ++ y :: B)
  | [], pre, h => by
    show (x c + q * y c) * f (pre ++ B) - sm f c (pre ++ [addm x q y]) B = (x c * f (pre ++ B) - sm f c (pre ++ [x]) B) + q * (y c * f (pre ++ B) - sm f c (pre ++ [y]) B)
    rw [sm_lin_pre hf B [] (by simpa using h)]
    grind
  | a :: A, pre, h => by
    simp only [List.length_cons] at h
    have e : ∀ z : Rw, sm f c pre ((a :: A) ++ z :: B) = a c * f ((pre ++ A) ++ z :: B) - sm f c (pre ++ [a]) (A ++ z :: B) := fun z => by
      show a c * f (pre ++ (A ++ z :: B)) - sm f c (pre ++ [a]) (A ++ z :: B) = _
      rw [← List.append_assoc]
    rw [e, e, e, hf (pre ++ A) x y q B (by simp only [List.length_append]; omega), sm_lin hf A (pre ++ [a]) (by simp only [List.length_append, List.length_cons, List.length_nil]; omega)]
    grind
theorem sm_alt_pre {n c : Nat} {f : List Rw → Rat} (hf : AltD n f) {P : List Rw} {x y : Rw} : ∀ (rest Q : List Rw), P.length + Q.length + 1 + rest.length = n → sm f c (P ++ x :: y :: Q) rest = -sm f c (P ++ y :: x :: Q) rest
  | [], Q, _ => by show (0 : Rat) = -0; grind
  | r :: rest, Q, h => by
    have e : ∀ z w : Rw, sm f c (P ++ z :: w :: Q) (r :: rest) = r c * f (P ++ z :: w :: (Q ++ rest)) - sm f c (P ++ z :: w :: (Q ++ [r])) rest := fun z w => by
      show r c * f ((P ++ z :: w :: Q) ++ rest) - sm f c ((P ++ z :: w :: Q) ++ [r]) rest = _
      simp only [List.append_assoc, List.cons_append]
    simp only [List.length_cons] at h
    rw [e, e, hf P x y (Q ++ rest) (by simp only [List.length_append]; omega), sm_alt_pre hf rest (Q ++ [r]) (by simp only [List.length_append, List.length_cons, List.length_nil]; omega)]
    grind
theorem sm_alt {n c : Nat} {f : List Rw → Rat} (hf : AltD n f) {x y : Rw} {B : List Rw} : ∀ (A pre : List Rw), pre.length + A.length + B.length + 1 = n → sm f c pre (A ++ x :: y :: B) = -sm f c pre (A ++ y :: x :: B)
  | [], pre, h => by
    have e : ∀ z w : Rw, sm f c pre (z :: w :: B) = z c * f (pre ++ w :: B) - (w c * f (pre ++ z :: B) - sm f c (pre ++ z :: w :: []) B) := fun z w => by
      show z c * f (pre ++ w :: B) - (w c * f ((pre ++ [z]) ++ B) - sm f c ((pre ++ [z]) ++ [w]) B) = _
      simp only [List.append_assoc, List.cons_append, List.nil_append]
    show sm f c pre (x :: y :: B) = -sm f c pre (y :: x :: B)
    rw [e, e, sm_alt_pre (x := x) (y := y) hf B [] (by simp only [List.length_nil] at h ⊢; omega)]
    grind
  | a :: A, pre, h => by
    simp only [List.length_cons] at h
    have e : ∀ z w : Rw, sm f c pre ((a :: A) ++ z :: w :: B) = a c * f ((pre ++ A) ++ z :: w :: B) - sm f c (pre ++ [a]) (A ++ z :: w :: B) := fun z w => by
      show a c * f (pre ++ (A ++ z :: w :: B)) - sm f c (pre ++ [a]) (A ++ z :: w :: B) = _
      rw [← List.append_assoc]
    rw [e, e, hf (pre ++ A) x y B (by simp only [List.length_append]; omega), sm_alt hf A (pre ++ [a]) (by simp only [List.length_append, List.length_cons, List.length_nil]; omega)]
    grind
theorem dt_lin : ∀ n c, LinD n (Dt n c)
  | 0, c => fun A x y q B h => absurd h (by omega)
  | n + 1, c => fun A x y q B h => sm_lin (dt_lin n (c + 1)) A [] (by simp only [List.length_nil]; omega)
theorem dt_alt : ∀ n c, AltD n (Dt n c)
  | 0, c => fun A x y B h => absurd h (by omega)
  | n + 1, c => fun A x y B h => sm_alt (dt_alt n (c + 1)) A [] (by simp only [List.length_nil]; omega)
theorem dup_zero {n : Nat} {f : List Rw → Rat} (hf : AltD n f) {x : Rw} {C : List Rw} : ∀ (B A : List Rw), A.length + B.length + C.length + 2 = n → f (A ++ x :: (B ++ x :: C)) = 0
  | [], A, h => by
    have := hf A x x C (by simp only [List.length_nil] at h; omega)
    show f (A ++ x :: x :: C) = 0
    grind
  | b :: B, A, h => by
    simp only [List.length_cons] at h
    have h1 := hf A x b (B ++ x :: C) (by simp only [List.length_append, List.length_cons]; omega)
    have h2 := dup_zero hf (x := x) (C := C) B (A ++ [b]) (by simp only [List.length_append, List.length_cons, List.length_nil]; omega)
    rw [List.append_assoc] at h2
    show f (A ++ x :: b :: (B ++ x :: C)) = 0
    rw [h1]
    show -f (A ++ ([b] ++ x :: (B ++ x :: C))) = 0
    rw [h2]
    grind
def eln (c : Nat) (x r : Rw) : Rw := addm r (-(r c / x c)) x
theorem eln_all {n c : Nat} {x : Rw} : ∀ (l A : List Rw), A.length + l.length + 1 = n → Dt n c (x :: (A ++ l)) = Dt n c (x :: (A ++ l.map (eln c x)))
  | [], A, _ => rfl
  | r :: l, A, h => by
    simp only [List.length_cons] at h
    have h1 := dt_lin n c (x :: A) r x (-(r c / x c)) l (by simp only [List.length_cons]; omega)
    have h2 := dup_zero (dt_alt n c) (x := x) (C := l) A [] (by simp only [List.length_nil]; omega)
    have h3 := eln_all (n := n) (c := c) (x := x) l (A ++ [eln c x r]) (by simp only [List.length_append, List.length_cons, List.length_nil]; omega)
    rw [List.append_assoc, List.append_assoc] at h3
    show Dt n c (x :: (A ++ r :: l)) = Dt n c (x :: (A ++ ([eln c x r] ++ l.map (eln c x))))
    rw [← h3]
    show Dt n c ((x :: A) ++ r :: l) = Dt n c ((x :: A) ++ eln c x r :: l)
    unfold eln
    rw [h1]
    have h2' : Dt n c ((x :: A) ++ x :: l) = 0 := h2
    rw [h2']
    grind
theorem sm_zero {f : List Rw → Rat} {c : Nat} : ∀ (l pre : List Rw), (∀ r ∈ l, r c = 0) → sm f c pre l = 0
  | [], _, _ => rfl
  | r :: l, pre, h => by
    show r c * f (pre ++ l) - sm f c (pre ++ [r]) l = 0
    rw [h r List.mem_cons_self, sm_zero l _ (fun q hq => h q (List.mem_cons_of_mem _ hq))]
    grind
theorem dt_step {n c : Nat} {x : Rw} {l : List Rw} (hx : x c ≠ 0) (hl : l.length = n) : Dt (n + 1) c (x :: l) = x c * Dt n (c + 1) (l.map (eln c x)) := by
  rw [show x :: l = x :: ([] ++ l) from rfl, eln_all l [] (by simp only [List.length_nil]; omega)]
  show x c * Dt n (c + 1) (l.map (eln c x)) - sm (Dt n (c + 1)) c [x] (l.map (eln c x)) = _
  rw [sm_zero _ _ (fun r hr => by
    obtain ⟨q, _, rfl⟩ := List.mem_map.1 hr
    show q c + -(q c / x c) * x c = 0
    rw [Rat.neg_mul, Rat.div_mul_cancel hx]
    grind)]
  grind
/-- The rows behind k steps of elimination. -/
def Mr (g : Nat → Rw) : Nat → Nat → Rw
  | 0, i => g i
  | k + 1, i => eln k (Mr g k k) (Mr g k i)
def pr (g : Nat → Rw) (t : Nat) : Nat → Rat
  | 0 => 1
  | d + 1 => Mr g t t t * pr g (t + 1) d
theorem pr_snoc (g : Nat → Rw) : ∀ d t, pr g t (d + 1) = pr g t d * Mr g (t + d) (t + d) (t + d)
  | 0, t => by show Mr g t t t * 1 = 1 * Mr g (t + 0) (t + 0) (t + 0); rw [Nat.add_zero]; grind
  | d + 1, t => by
    show Mr g t t t * pr g (t + 1) (d + 1) = Mr g t t t * pr g (t + 1) d * _
    rw [pr_snoc g d (t + 1), show t + 1 + d = t + (d + 1) by omega]
    grind
theorem det_M (g : Nat → Rw) (i : Nat) : ∀ d t, (∀ s, t ≤ s → s < t + d → Mr g s s s ≠ 0) → Dt (d + 1) t ((List.range' t d).map (Mr g t) ++ [Mr g t i]) = pr g t d * Mr g (t + d) i (t + d)
  | 0, t, _ => by
    show Mr g t i t * 1 - 0 = 1 * Mr g (t + 0) i (t + 0)
    rw [Nat.add_zero]; grind
  | d + 1, t, h => by
    rw [List.range'_succ, List.map_cons, List.cons_append, dt_step (h t (Nat.le_refl _) (by omega)) (by simp), List.map_append, List.map_map]
    have := det_M g i d (t + 1) (fun s h1 h2 => h s (by omega) (by omega))
    rw [show t + (d + 1) = t + 1 + d by omega]
    show Mr g t t t * Dt (d + 1) (t + 1) (List.map (Mr g (t + 1)) (List.range' (t + 1) d) ++ [Mr g (t + 1) i]) = Mr g t t t * pr g (t + 1) d * _
    rw [this]
    grind
def IsW (q : Rat) : Prop := ∃ z : Int, q = (z : Rat)
theorem IsW.mul {a b : Rat} (h : IsW a) (k : IsW b) : IsW (a * b) := by obtain ⟨x, rfl⟩ := h; obtain ⟨y, rfl⟩ := k; exact ⟨x * y, (Rat.intCast_mul x y).symm⟩
theorem IsW.sub {a b : Rat} (h : IsW a) (k : IsW b) : IsW (a - b) := by obtain ⟨x, rfl⟩ := h; obtain ⟨y, rfl⟩ := k; exact ⟨x - y, (Rat.intCast_sub x y).symm⟩
theorem IsW.one : IsW 1 := ⟨1, rfl⟩
theorem IsW.zero : IsW 0 := ⟨0, rfl⟩
theorem sm_int {f : List Rw → Rat} {c : Nat} (hf : ∀ l : List Rw, (∀ r ∈ l, ∀ j, IsW (r j)) → IsW (f l)) : ∀ (l pre : List Rw), (∀ r ∈ l, ∀ j, IsW (r j)) → (∀ r ∈ pre, ∀ j, IsW (r j)) → IsW (sm f c pre l)
  | [], _, _, _ => IsW.zero
  | r :: l, pre, h, hp => by
    refine ((h r List.mem_cons_self c).mul (hf _ fun q hq => ?_)).sub (sm_int hf l _ (fun q hq => h q (List.mem_cons_of_mem _ hq)) fun q hq => ?_)
    · rcases List.mem_append.1 hq with h1 | h1
      · exact hp q h1
      · exact h q (List.mem_cons_of_mem _ h1)
    · rcases List.mem_append.1 hq with h1 | h1
      · exact hp q h1
      · rw [List.mem_singleton.1 h1]; exact h r List.mem_cons_self
theorem dt_int : ∀ n c (l : List Rw), (∀ r ∈ l, ∀ j, IsW (r j)) → IsW (Dt n c l)
  | 0, _, _, _ => IsW.one
  | n + 1, c, l, h => sm_int (dt_int n (c + 1)) l [] h (fun r hr => by cases hr)
theorem mr_col (g : Nat → Rw) (k j : Nat) : ∀ t, t ≤ k → ∀ i c, Mr (fun s c => if c < k then g s c else g s j) t i c = Mr g t i (if c < k then c else j)
  | 0, _, i, c => by show (if c < k then g i c else g i j) = g i _; split <;> rfl
  | t + 1, h, i, c => by
    have ih := mr_col g k j t (by omega)
    show Mr _ t i c + -(Mr _ t i t / Mr _ t t t) * Mr _ t t c = Mr g t i _ + -(Mr g t i t / Mr g t t t) * Mr g t t _
    rw [ih i c, ih i t, ih t t, ih t c, if_pos (show t < k by omega)]
theorem pr_col (g : Nat → Rw) (k j : Nat) : ∀ d t, t + d ≤ k → pr (fun s c => if c < k then g s c else g s j) t d = pr g t d
  | 0, _, _ => rfl
  | d + 1, t, h => by
    show Mr _ t t t * pr _ (t + 1) d = _ * _
    rw [pr_col g k j d (t + 1) (by omega), mr_col g k j t (by omega) t t, if_pos (show t < k by omega)]
/-- The numerators are whole. -/
theorem minor_int {g : Nat → Rw} (hg : ∀ s c, IsW (g s c)) {k : Nat} (hp : ∀ s, s < k → Mr g s s s ≠ 0) (i j : Nat) : IsW (pr g 0 k * Mr g k i j) := by
  have h := det_M (fun s c => if c < k then g s c else g s j) i k 0 (fun s _ hs => by
    rw [mr_col g k j s (by omega), if_pos (show s < k by omega)]; exact hp s (by omega))
  rw [pr_col g k j k 0 (by omega), Nat.zero_add, mr_col g k j k (Nat.le_refl _), if_neg (Nat.lt_irrefl k)] at h
  rw [← h]
  refine dt_int _ _ _ fun r hr c => ?_
  have hz : ∀ s c, IsW ((fun (s c : Nat) => if c < k then g s c else g s j) s c) := fun s c => by show IsW (if c < k then g s c else g s j); split <;> exact hg _ _
  rcases List.mem_append.1 hr with h1 | h1
  · obtain ⟨q, _, rfl⟩ := List.mem_map.1 h1; exact hz q c
  · rw [List.mem_singleton.1 h1]; exact hz i c
theorem mr_symm {g : Nat → Rw} (hg : ∀ i j, g i j = g j i) : ∀ k i j, Mr g k i j = Mr g k j i
  | 0, i, j => hg i j
  | k + 1, i, j => by
    show Mr g k i j + -(Mr g k i k / Mr g k k k) * Mr g k k j = Mr g k j i + -(Mr g k j k / Mr g k k k) * Mr g k k i
    rw [mr_symm hg k i j, mr_symm hg k k j, mr_symm hg k k i, Rat.div_def, Rat.div_def]
    grind
/-- The products of rows, as fractions. -/
def gU (b : List (List Int)) (i j : Nat) : Int := dotU (b.getD i []) (b.getD j []) (b.getD i []).length
def gR (b : List (List Int)) (i : Nat) : Rw := fun j => ((gU b i j : Int) : Rat)
theorem dotU_comm (xs ys : List Int) : ∀ n, dotU xs ys n = dotU ys xs n
  | 0 => rfl
  | n + 1 => by show dotU xs ys n + _ = dotU ys xs n + _; rw [dotU_comm xs ys n, Int.mul_comm]
theorem dotU_ext {xs ys xs' ys' : List Int} : ∀ n, (∀ i, i < n → xs.getD i 0 * ys.getD i 0 = xs'.getD i 0 * ys'.getD i 0) → dotU xs ys n = dotU xs' ys' n
  | 0, _ => rfl
  | n + 1, h => by show dotU xs ys n + _ = dotU xs' ys' n + _; rw [dotU_ext n (fun i hi => h i (by omega)), h n (by omega)]
/-- Products behind the length are nought. -/
theorem dotU_more {xs ys : List Int} {m : Nat} (h : xs.length ≤ m) : ∀ d, dotU xs ys (m + d) = dotU xs ys m
  | 0 => rfl
  | d + 1 => by
    show dotU xs ys (m + d) + xs.getD (m + d) 0 * _ = _
    rw [dotU_more h d, show xs.getD (m + d) 0 = 0 from by rw [List.getD_eq_getElem?_getD, List.getElem?_eq_none (by omega)]; rfl, Int.zero_mul, Int.add_zero]
theorem gU_symm (b : List (List Int)) (i j : Nat) : gU b i j = gU b j i := by
  unfold gU
  rcases Nat.le_total (b.getD i []).length (b.getD j []).length with h | h
  · obtain ⟨d, hd⟩ := Nat.le.dest h
    rw [← hd, dotU_comm (b.getD j []), dotU_more (Nat.le_refl _) d]
  · obtain ⟨d, hd⟩ := Nat.le.dest h
    rw [← hd, dotU_comm, dotU_more (Nat.le_refl _) d]
theorem gR_symm (b : List (List Int)) (i j : Nat) : gR b i j = gR b j i := by show ((gU b i j : Int) : Rat) = _; rw [gU_symm]; rfl
theorem gR_int (b : List (List Int)) (i j : Nat) : IsW (gR b i j) := ⟨_, rfl⟩
/-- All pivots ahead of n are above nought. -/
def Ok (b : List (List Int)) (n : Nat) : Prop := ∀ k, k < n → 0 < Mr (gR b) k k k
abbrev pb (b : List (List Int)) (k : Nat) : Rat := pr (gR b) 0 k
theorem pb_succ (b : List (List Int)) (k : Nat) : pb b (k + 1) = pb b k * Mr (gR b) k k k := by have := pr_snoc (gR b) k 0; rw [Nat.zero_add] at this; exact this
theorem pb_pos {b : List (List Int)} {n : Nat} (h : Ok b n) : ∀ k, k ≤ n → 0 < pb b k
  | 0, _ => by show (0 : Rat) < 1; decide
  | k + 1, hk => by rw [pb_succ]; exact Rat.mul_pos (pb_pos h k (by omega)) (h k (by omega))
theorem rat_pos_ne {q : Rat} (h : 0 < q) : q ≠ 0 := fun e => by rw [e] at h; exact absurd h (Rat.lt_irrefl)
theorem ok_ne {b : List (List Int)} {n : Nat} (h : Ok b n) {k : Nat} (hk : k < n) : Mr (gR b) k k k ≠ 0 := rat_pos_ne (h k hk)
/-- What the data say, so far. -/
structure DI (b : List (List Int)) (i : Nat) (D : List Int) (L : List (List Int)) : Prop where
  lD : D.length = i + 1
  lL : L.length = i
  ok : Ok b i
  d : ∀ k, k ≤ i → ((D.getD k 0 : Int) : Rat) = pb b k
  lr : ∀ j, j < i → (L.getD j []).length = j
  l : ∀ j k, j < i → k < j → (((L.getD j []).getD k 0 : Int) : Rat) = pb b k * Mr (gR b) k j k
theorem fdiv_exact {x d z : Int} (hd : d ≠ 0) (h : x = d * z) : Int.fdiv x d = z := by subst h; exact Int.mul_fdiv_cancel_left z hd
theorem step_exact {b : List (List Int)} {D Lr row : List Int} {i j k : Nat} {u : Int} (hok : Ok b (k + 1)) (h0 : ((D.getD k 0 : Int) : Rat) = pb b k) (h1 : ((D.getD (k + 1) 0 : Int) : Rat) = pb b (k + 1)) (hu : ((u : Int) : Rat) = pb b k * Mr (gR b) k i j) (hr : ((row.getD k 0 : Int) : Rat) = pb b k * Mr (gR b) k i k) (hl : ((Lr.getD k 0 : Int) : Rat) = pb b k * Mr (gR b) k j k) : ((stepU D Lr row k u : Int) : Rat) = pb b (k + 1) * Mr (gR b) (k + 1) i j := by
  obtain ⟨z, hz⟩ := minor_int (gR_int b) (k := k + 1) (fun s hs => ok_ne hok hs) i j
  have hp := rat_pos_ne (pb_pos hok k (by omega))
  have hm := ok_ne hok (Nat.lt_succ_self k)
  have e : D.getD (k + 1) 0 * u - row.getD k 0 * Lr.getD k 0 = D.getD k 0 * z := by
    refine Rat.intCast_inj.1 ?_
    rw [Rat.intCast_sub, Rat.intCast_mul, Rat.intCast_mul, Rat.intCast_mul, h0, h1, hu, hr, hl, ← hz]
    show pb b (k + 1) * (pb b k * Mr (gR b) k i j) - pb b k * Mr (gR b) k i k * (pb b k * Mr (gR b) k j k) = pb b k * (pb b (k + 1) * (Mr (gR b) k i j + -(Mr (gR b) k i k / Mr (gR b) k k k) * Mr (gR b) k k j))
    rw [pb_succ, mr_symm (gR_symm b) k k j]
    generalize Mr (gR b) k k k = m at hm
    generalize Mr (gR b) k i k = x
    generalize Mr (gR b) k j k = y
    generalize pb b k = p at hp
    grind
  have hd : D.getD k 0 ≠ 0 := fun e0 => by rw [e0] at h0; exact hp h0.symm
  unfold stepU
  rw [fdiv_exact hd e, hz]
theorem red_exact {b : List (List Int)} {D : List Int} {L : List (List Int)} {row : List Int} {i j : Nat} (h : DI b i D L) (hji : j ≤ i) (hr : ∀ k, k < j → ((row.getD k 0 : Int) : Rat) = pb b k * Mr (gR b) k i k) : ∀ k, k ≤ j → ((redU D (pickL L row i j) row (gU b i j) k : Int) : Rat) = pb b k * Mr (gR b) k i j
  | 0, _ => by show ((gU b i j : Int) : Rat) = 1 * ((gU b i j : Int) : Rat); grind
  | k + 1, hk => by
    refine step_exact (fun s hs => h.ok s (by omega)) (h.d k (by omega)) (h.d (k + 1) (by omega)) (red_exact h hji hr k (by omega)) (hr k (by omega)) ?_
    unfold pickL
    split
    · exact h.l j k (by assumption) (by omega)
    · have : j = i := by omega
      subst this; exact hr k (by omega)
theorem row_len {b : List (List Int)} {D : List Int} {L : List (List Int)} {i : Nat} : ∀ j, (rowU b D L i j).length = j
  | 0 => rfl
  | j + 1 => by unfold rowU; rw [List.length_append, row_len j]; rfl
theorem row_exact {b : List (List Int)} {D : List Int} {L : List (List Int)} {i : Nat} (h : DI b i D L) : ∀ j, j ≤ i + 1 → ∀ k, k < j → (((rowU b D L i j).getD k 0 : Int) : Rat) = pb b k * Mr (gR b) k i k
  | 0, _, k, hk => absurd hk (Nat.not_lt_zero _)
  | j + 1, hj, k, hk => by
    unfold rowU
    rcases Nat.lt_or_ge k j with h1 | h1
    · rw [gl_lt (by rw [row_len]; exact h1)]; exact row_exact h j (by omega) k h1
    · rw [gl_eq (by rw [row_len]; omega), show k = j by omega]
      exact red_exact h (by omega) (fun k hk => row_exact h j (by omega) k hk) j (Nat.le_refl _)
theorem row_pos {b : List (List Int)} {D : List Int} {L : List (List Int)} {i : Nat} (h : DI b i D L) : 0 < (rowU b D L i (i + 1)).getD i 0 ↔ 0 < Mr (gR b) i i i := by
  have e := row_exact h (i + 1) (Nat.le_refl _) i (Nat.lt_succ_self i)
  have hp := pb_pos h.ok i (Nat.le_refl _)
  rw [← Rat.intCast_lt_intCast, e]
  show (0 : Rat) < _ ↔ _
  constructor
  · intro h1
    by_cases h2 : 0 < Mr (gR b) i i i
    · exact h2
    · exfalso
      replace h2 := Rat.not_lt.1 h2
      have := Rat.mul_le_mul_of_nonneg_left h2 (Rat.le_of_lt hp)
      rw [Rat.mul_zero] at this
      exact absurd h1 (Rat.not_lt.2 this)
  · exact Rat.mul_pos hp
theorem DI.zero (b : List (List Int)) : DI b 0 [1] [] := ⟨rfl, rfl, fun k hk => absurd hk (Nat.not_lt_zero _), fun k hk => by rw [show k = 0 by omega]; rfl, fun j hj => absurd hj (Nat.not_lt_zero _), fun j k hj => absurd hj (Nat.not_lt_zero _)⟩
theorem DI.step {b : List (List Int)} {D : List Int} {L : List (List Int)} {i : Nat} (h : DI b i D L) (hp : 0 < (rowU b D L i (i + 1)).getD i 0) : DI b (i + 1) (D ++ [(rowU b D L i (i + 1)).getD i 0]) (L ++ [(rowU b D L i (i + 1)).take i]) := by
  have hm := (row_pos h).1 hp
  have hr := row_exact h (i + 1) (Nat.le_refl _)
  refine ⟨by rw [List.length_append, h.lD]; rfl, by rw [List.length_append, h.lL]; rfl, fun k hk => ?_, fun k hk => ?_, fun j hj => ?_, fun j k hj hk => ?_⟩
  · rcases Nat.lt_or_ge k i with h1 | h1
    · exact h.ok k h1
    · rw [show k = i by omega]; exact hm
  · rcases Nat.lt_or_ge k (i + 1) with h1 | h1
    · rw [gl_lt (by rw [h.lD]; exact h1)]; exact h.d k (by omega)
    · rw [gl_eq (by rw [h.lD]; omega), show k = i + 1 by omega, hr i (Nat.lt_succ_self i), pb_succ]
  · rcases Nat.lt_or_ge j i with h1 | h1
    · rw [gl_lt (by rw [h.lL]; exact h1)]; exact h.lr j h1
    · rw [gl_eq (by rw [h.lL]; omega), List.length_take, row_len]; omega
  · rcases Nat.lt_or_ge j i with h1 | h1
    · rw [gl_lt (by rw [h.lL]; exact h1)]; exact h.l j k h1 hk
    · rw [gl_eq (by rw [h.lL]; omega), take_getD (by omega), hr k (by omega), show j = i by omega]
theorem bld_DI {b : List (List Int)} : ∀ {i : Nat} {D : List Int} {L : List (List Int)}, bld b i = some (D, L) → DI b i D L
  | 0, D, L, h => by cases h; exact DI.zero b
  | i + 1, D, L, h => by
    obtain ⟨D', L', h1, h2, h3⟩ := bld_prev h
    cases h3
    exact (bld_DI h1).step h2
theorem bld_of_ok {b : List (List Int)} : ∀ {i : Nat}, Ok b i → ∃ D L, bld b i = some (D, L)
  | 0, _ => ⟨_, _, rfl⟩
  | i + 1, h => by
    obtain ⟨D, L, hD⟩ := bld_of_ok (i := i) (fun k hk => h k (by omega))
    have hp := (row_pos (bld_DI hD)).2 (h i (Nat.lt_succ_self i))
    refine ⟨D ++ [(rowU b D L i (i + 1)).getD i 0], L ++ [(rowU b D L i (i + 1)).take i], ?_⟩
    show (match bld b i with | none => none | some (D, L) => if (rowU b D L i (i + 1)).getD i 0 ≤ 0 then none else some (D ++ [(rowU b D L i (i + 1)).getD i 0], L ++ [(rowU b D L i (i + 1)).take i])) = _
    rw [hD]
    simp only
    rw [if_neg (Int.not_le.2 hp)]
end Go.Proofs.Ytbihfnjmdpbkgaa.V
