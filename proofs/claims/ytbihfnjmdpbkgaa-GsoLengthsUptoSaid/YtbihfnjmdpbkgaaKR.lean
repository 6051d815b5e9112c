/- The document: rows made orthogonal. -/
import Derived.Test.YtbihfnjmdpbkgaaKQ
import Derived.Test.YtbihfnjmdpbkgaaKG
set_option linter.unusedVariables false
set_option linter.unusedSimpArgs false
set_option maxRecDepth 100000
namespace Go.Proofs.Ytbihfnjmdpbkgaa.V
open Go.RowKit Mt Nml
theorem tyR : Ty Try.prog 105 true 2 := ⟨by kernel_rfl, by kernel_rfl⟩
theorem tyQss : Ty Try.prog 103 false 1 := ⟨by kernel_rfl, by kernel_rfl⟩
theorem fMu : FieldT Try.prog 105 0 0 false 1 := FieldT.mk' tyQss
theorem fStar : FieldT Try.prog 105 1 1 false 1 := FieldT.mk' tyQs
theorem slQss : SlT Try.prog 103 95 1 24 := SlT.mk (.slice none 0 0)
theorem stR : StructT Try.prog 105 [T.c (.slice none 0 0), T.c (.slice none 0 0)] [(0, 1), (1, 1)] := StructT.mk' (zs := [.slice none 0 0, .slice none 0 0])
theorem zeR : Zero Try.prog 105 [T.c (.slice none 0 0), T.c (.slice none 0 0)] := zero_of (zs := [.slice none 0 0, .slice none 0 0]) (z := .agg #[.slice none 0 0, .slice none 0 0]) (by kernel_rfl)
theorem q_nd (q : Rat) : ((q.num : Int) : Rat) / (((q.den : Int)) : Rat) = q := by rw [← Rat.divInt_eq_div, Rat.num_divInt_den]
theorem rat_divs {q r : Rat} (hr : r ≠ 0) : ((q.num * (r.den : Int) : Int) : Rat) / (((q.den : Int) * r.num : Int) : Rat) = q / r := by
  have h1 : (((q.den : Int)) : Rat) ≠ 0 := rat_ne (den_ne q)
  have h2 : (((r.den : Int)) : Rat) ≠ 0 := rat_ne (den_ne r)
  have h3 : ((r.num : Int) : Rat) ≠ 0 := rat_ne (fun e => hr (Rat.num_eq_zero.1 e))
  conv => rhs; rw [← q_nd q, ← q_nd r]
  rw [Rat.intCast_mul, Rat.intCast_mul]
  generalize ((q.num : Int) : Rat) = a
  generalize ((r.num : Int) : Rat) = c at h3
  generalize (((q.den : Int)) : Rat) = b at h1
  generalize (((r.den : Int)) : Rat) = d at h2
  grind
theorem num_ne {r : Rat} (hr : r ≠ 0) : r.num ≠ 0 := fun e => hr (Rat.num_eq_zero.1 e)
theorem box_open {et : TypeId} {l : List T} : (Ent.box et [T.st l]).le (Ent.box et l) := fun β u w v F ⟨b, cs, h1, h2, h3, v', rest, _, ⟨cs', e1, hc⟩, e2, e3⟩ => ⟨b, cs, h1, h2, h3, by
  subst e1
  rw [e3, List.append_nil] at e2
  simp only [Value.cells] at e2
  rw [e2]; exact hc⟩
/-- The coefficients and squared lengths of rows, as fractions. -/
def mR (b : List (List Int)) (i j : Nat) : Rat := Mr (gR b) j i j / Mr (gR b) j j j
def sR (b : List (List Int)) (i : Nat) : Rat := Mr (gR b) i i i
def mL (b : List (List Int)) (i n : Nat) : List Rat := (List.range n).map (mR b i)
def ML (b : List (List Int)) (n : Nat) : List (List Rat) := (List.range n).map (fun i => mL b i i)
def SL (b : List (List Int)) (n : Nat) : List Rat := (List.range n).map (sR b)
theorem rng_at {α : Type} {f : Nat → α} {d : α} {n k : Nat} (h : k < n) : ((List.range n).map f).getD k d = f k := by
  rw [List.getD_eq_getElem?_getD, List.getElem?_map, List.getElem?_range h]; rfl
theorem mL_at {b : List (List Int)} {i n k : Nat} (h : k < n) : (mL b i n).getD k 0 = mR b i k := rng_at h
theorem ML_at {b : List (List Int)} {n j : Nat} (h : j < n) : (ML b n).getD j [] = mL b j j := rng_at h
theorem SL_at {b : List (List Int)} {n k : Nat} (h : k < n) : (SL b n).getD k 0 = sR b k := rng_at h
theorem mL_len {b : List (List Int)} {i n : Nat} : (mL b i n).length = n := by simp [mL]
theorem ML_len {b : List (List Int)} {n : Nat} : (ML b n).length = n := by simp [ML]
theorem SL_len {b : List (List Int)} {n : Nat} : (SL b n).length = n := by simp [SL]
theorem mL_succ {b : List (List Int)} {i n : Nat} : mL b i n ++ [mR b i n] = mL b i (n + 1) := by simp [mL, List.range_succ]
theorem ML_succ {b : List (List Int)} {n : Nat} : ML b n ++ [mL b n n] = ML b (n + 1) := by simp [ML, List.range_succ]
theorem SL_succ {b : List (List Int)} {n : Nat} : SL b n ++ [sR b n] = SL b (n + 1) := by simp [SL, List.range_succ]
theorem mr_step (b : List (List Int)) {i j k : Nat} (h : sR b k ≠ 0) : Mr (gR b) k i j - mR b j k * mR b i k * sR b k = Mr (gR b) (k + 1) i j := by
  show Mr (gR b) k i j - Mr (gR b) k j k / Mr (gR b) k k k * (Mr (gR b) k i k / Mr (gR b) k k k) * Mr (gR b) k k k = Mr (gR b) k i j + -(Mr (gR b) k i k / Mr (gR b) k k k) * Mr (gR b) k k j
  rw [mr_symm (gR_symm b) k k j]
  have h' : Mr (gR b) k k k ≠ 0 := h
  generalize Mr (gR b) k k k = m at h'
  generalize Mr (gR b) k i k = x
  generalize Mr (gR b) k j k = y
  grind
theorem mr_step2 (b : List (List Int)) {i k : Nat} (h : sR b k ≠ 0) : Mr (gR b) k i i - mR b i k * mR b i k * sR b k = Mr (gR b) (k + 1) i i := mr_step b h

theorem r03_Div {q r : Rat} {k l : Nat} (hr : r ≠ 0) (hk : k ≤ 68719476736) (hl : l ≤ 68719476736) : Fn Try.prog 169 [T.Q q k, T.Q r l] [] [] [] (T.Q (q / r) (2 * (k + l))) := by
  refine fn_of Try.func169 rfl (by show 2 ≤ 16; decide) fun cx hcx => ?_
  refine tri_sub (sl 0 rfl (sl 1 rfl sn)) en ?_
  have hd1 := den_ne q; have hr1 := num_ne hr; have hdd : (q.den : Int) * r.num ≠ 0 := Int.mul_ne_zero hd1 hr1
  refine tri_seq ?_
  refine tri_reg mixed hcx ?_ _ _
  refine bxs 10 rfl ?_
  refine bxs 11 rfl ?_
  refine nw 12 zeQ ?_
  refine ⟨by kernel_rfl, ?_⟩
  refine nx (sl 2 rfl (sl 3 rfl (sl 4 rfl sn))) (el 10 rfl (el 11 rfl (el 12 rfl en))) ?_
  refine tri_seq ?_
  refine tri_reg mixed hcx ?_ _ _
  refine fa rfl fNum 0 ?_
  refine ld rfl rfl tyZ rfl ?_
  refine fa rfl fDen 2 ?_
  refine ld rfl rfl tyZ rfl ?_
  refine ca rfl (h := r02_Mul (by omega) (by omega)) (hn := ?_)
  refine fa rfl fDen 2 ?_
  refine ld rfl rfl tyZ rfl ?_
  refine fa rfl fNum 0 ?_
  refine ld rfl rfl tyZ rfl ?_
  refine ca rfl (h := r02_Mul (by omega) (by omega)) (hn := ?_)
  refine ca rfl (h := r03_Make (by first | assumption | omega) (by omega) (by omega)) (hn := ?_)
  refine st rfl rfl rfl tyQ rfl ?_
  refine ⟨by kernel_rfl, ?_⟩
  refine nx (sl 4 rfl sn) (el 10 rfl (el 11 rfl (el 12 rfl en))) ?_
  refine tri_ret ?_
  repeat (first | refine pn_thenr ?_ | refine pn_blkr ?_)
  exact ret1 hcx rfl (rv_cell (c' := cx) (n := 0) rfl rfl tyQ rfl) (q_eq (rat_divs hr) (by omega)) en

theorem r05_Dot {xs ys : List Int} {k l : Nat} (hl : xs.length = ys.length) (hn : xs.length ≤ 1048576) (hk : k ≤ 1099511627776) (hk2 : l ≤ 1099511627776) (hkl : xs.length * (k + l + 1) ≤ 1099511627776) : Fn Try.prog 70 [T.l (cZi k) xs, T.l (cZi l) ys] [] [] [] (T.Z (dotU xs ys xs.length) (xs.length * (k + l + 1))) := by
  refine fn_of Try.func70 rfl (by show 2 ≤ 31; decide) fun cx hcx => ?_
  refine tri_sub (sl 0 rfl (sl 1 rfl sn)) en ?_
  refine tri_seq ?_
  refine tri_reg mixed hcx ?_ _ _
  refine nw 10 zeZ ?_
  refine ⟨by kernel_rfl, ?_⟩
  refine nx (sl 0 rfl (sl 1 rfl (sl 4 rfl sn))) (el 10 rfl en) ?_
  refine tri_seq ?_
  refine tri_reg mixed hcx ?_ _ _
  refine nw 110 zeZ ?_
  refine ⟨by kernel_rfl, ?_⟩
  refine nx (sl 0 rfl (sl 1 rfl (sl 4 rfl (sl 5 rfl sn)))) (el 10 rfl (el 110 rfl en)) ?_
  refine tri_seq ?_
  refine tri_seq ?_
  refine tri_reg mixed hcx ?_ _ _
  refine asg rfl ?_
  refine ⟨by kernel_rfl, ?_⟩
  refine nx (sl 0 rfl (sl 1 rfl (sl 4 rfl (sl 5 rfl (sl 6 rfl sn))))) (el 10 rfl (el 110 rfl en)) ?_
  refine tri_block ?_
  refine tri_loop (ι := Nat) (fun i => [(0, T.l (cZi k) xs), (1, T.l (cZi l) ys), (4, T.p 10 0), (5, T.p 110 0), (6, T.c (.int .i64 (i : Int)))]) (fun i => [(10, some (Ent.box 44 [T.c (.bool false), T.c (.slice none 0 0)])), (110, some (Ent.box 44 [T.Z (dotU xs ys i) (i * (k + l + 1))]))]) (fun i => xs.length - i) (fun i => (i ≤ xs.length)) 0 (Nat.zero_le _) (sl 0 rfl (sl 1 rfl (sl 4 rfl (sl 5 rfl (sl 6 rfl sn))))) (el 10 rfl (ew 110 rfl (box_pack (zz0.trans (z_up (Nat.zero_le _))) (by show (2 : Nat) ≠ 0; omega)) en)) ?_
  rintro i hi
  refine tri_sub (sl 0 rfl (sl 1 rfl (sl 4 rfl (sl 5 rfl (sl 6 rfl sn))))) (el 10 rfl (el 110 rfl en)) ?_
  have hib : i * (k + l + 1) ≤ xs.length * (k + l + 1) := Nat.mul_le_mul_right _ hi
  refine tri_seq ?_
  refine tri_seq ?_
  rcases Nat.lt_or_ge i xs.length with h9 | h9
  · refine tri_reg mixed hcx ?_ _ _
    refine mv rfl ?_
    refine mv rfl ?_
    refine ln slZs rfl ?_
    refine clt rfl rfl (decide_eq_true (by omega)) ?_
    refine mv rfl ?_
    refine mv rfl ?_ (hg := gd1)
    refine mv rfl ?_ (hg := gd1)
    refine ln slZs rfl ?_ (hg := gd1)
    refine clt rfl rfl (decide_eq_true (by omega)) ?_ (hg := gd1)
    refine pk rfl rfl ?_
    refine ⟨by kernel_rfl, ?_⟩
    refine nx (sl 0 rfl (sl 1 rfl (sl 4 rfl (sl 5 rfl (sl 6 rfl (sl 16 rfl sn)))))) (el 10 rfl (el 110 rfl en)) ?_
    refine tri_true rfl rfl ?_
    refine tri_skip ?_
    refine nx (sl 0 rfl (sl 1 rfl (sl 4 rfl (sl 5 rfl (sl 6 rfl sn))))) (el 10 rfl (el 110 rfl en)) ?_
    refine tri_seq ?_
    refine tri_block ?_
    refine tri_reg mixed hcx ?_ _ _
    refine ld rfl rfl tyZ rfl ?_
    refine mv rfl ?_
    refine mv rfl ?_
    refine ix rfl rfl slZs ⟨rfl, by omega⟩ ?_
    refine lf rfl tyZ ?_
    refine mv rfl ?_
    refine mv rfl ?_
    refine ix rfl rfl slZs ⟨rfl, by omega⟩ ?_
    refine lf rfl tyZ ?_
    refine ca rfl (h := r02_Mul (by omega) (by omega)) (hn := ?_)
    refine ca rfl (h := r02_Add (by omega) (by omega)) (hn := ?_)
    refine st rfl rfl rfl tyZ rfl ?_
    refine ⟨by kernel_rfl, ?_⟩
    refine pn_blk ?_
    refine nx (sl 0 rfl (sl 1 rfl (sl 4 rfl (sl 5 rfl (sl 6 rfl sn))))) (el 10 rfl (el 110 rfl en)) ?_
    refine tri_reg mixed hcx ?_ _ _
    refine mv rfl ?_
    refine ad (((i + 1 : Nat) : Int)) rfl rfl rfl (by omega) ?_
    refine asg rfl ?_
    refine ⟨by kernel_rfl, ?_⟩
    exact pn_back (i + 1) (by first | omega | (dsimp only; omega)) (by omega) (sl 0 rfl (sl 1 rfl (sl 4 rfl (sl 5 rfl (sl 6 rfl sn))))) (el 10 rfl (ew 110 rfl (box_pack1 (z_up (by rw [Nat.succ_mul]; omega))) en))
  · refine tri_reg mixed hcx ?_ _ _
    refine mv rfl ?_
    refine mv rfl ?_
    refine ln slZs rfl ?_
    refine clt rfl rfl (decide_eq_false (by omega)) ?_
    refine mv rfl ?_
    refine j_off rfl rfl rfl rfl ?_
    refine j_off rfl rfl rfl rfl ?_
    refine j_off rfl rfl rfl rfl ?_
    refine j_off rfl rfl rfl rfl ?_
    refine pk rfl rfl ?_
    refine ⟨by kernel_rfl, ?_⟩
    refine nx (sl 0 rfl (sl 1 rfl (sl 4 rfl (sl 5 rfl (sl 6 rfl (sl 16 rfl sn)))))) (el 10 rfl (el 110 rfl en)) ?_
    refine tri_false rfl rfl ?_
    refine tri_exit ?_
    repeat (first | refine pn_then ?_ | refine pn_oth (by decide) ?_)
    refine pn_ex ?_
    obtain rfl : i = xs.length := by omega
    refine nx (sl 4 rfl (sl 5 rfl sn)) (el 10 rfl (el 110 rfl en)) ?_
    refine tri_seq ?_
    refine tri_reg mixed hcx ?_ _ _
    refine ld rfl rfl tyZ rfl ?_
    refine st rfl rfl rfl tyZ rfl ?_
    refine ⟨by kernel_rfl, ?_⟩
    refine nx (sl 4 rfl sn) (el 10 rfl (el 110 rfl en)) ?_
    refine tri_ret ?_
    repeat (first | refine pn_thenr ?_ | refine pn_blkr ?_)
    exact ret1 hcx rfl (rv_cell (c' := cx) (n := 0) rfl rfl tyZ rfl) (.refl _) en

theorem q_pos {q : Rat} : 0 < q ↔ 0 < q.num := by
  constructor
  · intro h
    have h3 : 0 ≤ q.num := Rat.num_nonneg.2 (Rat.le_of_lt h)
    have h4 : q.num ≠ 0 := fun e => by rw [Rat.num_eq_zero] at e; rw [e] at h; exact Rat.lt_irrefl h
    omega
  · intro h
    refine Rat.lt_of_le_of_ne (Rat.num_nonneg.1 (by omega)) fun e => ?_
    rw [← e] at h
    exact absurd h (by decide)
theorem any_l {α : Type} {c : Cod α} {l : List α} : (T.l c l).le T.any := fun β u v ⟨A, n, k, e, _⟩ => by subst e; rfl

theorem r05_Make {b : List (List Int)} {kb m K : Nat} (hall : Ok b b.length) (hbl : b.length ≤ 1048576) (hm : ∀ i, i < b.length → (b.getD i []).length = m) (hmm : m ≤ 1048576) (hkb : kb ≤ 1048576) (hmk : m * (kb + kb + 1) ≤ 17179869184) (hQ : ∀ i, i < b.length → Ok b i → ∀ k j, k ≤ j → j ≤ i → QB (Mr (gR b) k i j) K) (hM : ∀ i j, j < i → i < b.length → Ok b i → QB (mR b i j) K) (hK : K ≤ 268435456) : Fn Try.prog 134 [T.l (cL (cZi kb)) b] [] [] [] (T.tup [T.st [T.l (cL (cQ K)) (ML b b.length), T.l (cQ K) (SL b b.length)], T.c (.bool true)]) := by
  refine fn_of Try.func134 rfl (by show 1 ≤ 115; decide) fun cx hcx => ?_
  refine tri_sub (sl 0 rfl sn) en ?_
  refine tri_seq ?_
  refine tri_reg mixed hcx ?_ _ _
  refine nw 10 zeR ?_
  refine asg rfl ?_
  refine ⟨by kernel_rfl, ?_⟩
  refine nx (sl 0 rfl (sl 2 rfl sn)) (el 10 rfl en) ?_
  refine tri_seq ?_
  refine tri_reg mixed hcx ?_ _ _
  refine nw 110 zeR ?_
  refine ⟨by kernel_rfl, ?_⟩
  refine nx (sl 0 rfl (sl 2 rfl (sl 4 rfl sn))) (el 10 rfl (el 110 rfl en)) ?_
  refine tri_seq ?_
  refine tri_seq ?_
  refine tri_nilb (cL (cQ K)) 95 (bl := [T.c (.slice none 0 0), T.c (.slice none 0 0)]) (bl' := [T.o 8, T.c (.slice none 0 0)]) 110 8 rfl ⟨.inr ⟨rfl, rfl⟩, .inl ⟨rfl, by show 8 ∉ []; decide⟩, trivial⟩ (by rw [hcx]; kernel_rfl) ?_
  refine tri_nilb (cQ K) 46 (bl := [T.o 8, T.c (.slice none 0 0)]) (bl' := [T.o 8, T.o 9]) 110 9 rfl ⟨.inl ⟨rfl, by show 9 ∉ [8]; decide⟩, .inr ⟨rfl, rfl⟩, trivial⟩ (by rw [hcx]; kernel_rfl) ?_
  refine tri_reg mixed hcx ?_ _ _
  refine asg rfl ?_
  refine ⟨by kernel_rfl, ?_⟩
  refine nx (sl 0 rfl (sl 2 rfl (sl 4 rfl (sl 5 rfl sn)))) (el 10 rfl (el 110 rfl (el 8 rfl (el 9 rfl en)))) ?_
  refine tri_block ?_
  refine tri_loop (ι := Nat) (fun i => [(0, T.l (cL (cZi kb)) b), (2, T.p 10 0), (4, T.p 110 0), (5, T.c (.int .i64 (i : Int)))]) (fun i => [(10, some (Ent.box 105 [T.c (.slice none 0 0), T.c (.slice none 0 0)])), (8, some (Ent.row (cL (cQ K)) 95 (ML b i))), (9, some (Ent.row (cQ K) 46 (SL b i))), (110, some (Ent.box 105 [T.o 8, T.o 9]))]) (fun i => b.length - i) (fun i => (i ≤ b.length) ∧ (Ok b i)) 0 ⟨Nat.zero_le _, fun k hk => absurd hk (Nat.not_lt_zero _)⟩ (sl 0 rfl (sl 2 rfl (sl 4 rfl (sl 5 rfl sn)))) (el 10 rfl (el 8 rfl (el 9 rfl (el 110 rfl en)))) ?_
  rintro i ⟨hi, hok⟩
  refine tri_sub (sl 0 rfl (sl 2 rfl (sl 4 rfl (sl 5 rfl sn)))) (el 10 rfl (el 8 rfl (el 9 rfl (el 110 rfl en)))) ?_
  refine tri_seq ?_
  refine tri_seq ?_
  refine tri_reg mixed hcx ?_ _ _
  refine mv rfl ?_
  refine mv rfl ?_
  refine ln slZss rfl ?_
  refine clt rfl rfl rfl ?_
  refine ⟨by kernel_rfl, ?_⟩
  refine nx (sl 0 rfl (sl 2 rfl (sl 4 rfl (sl 5 rfl (sl 15 rfl sn))))) (el 10 rfl (el 8 rfl (el 9 rfl (el 110 rfl en)))) ?_
  refine tri_if rfl (fun hc => ?_) (fun hc => ?_)
  · have hmi : (b.getD i (cL (cZi kb)).dflt).length = m := hm i (by omega)
    have hQi := hQ i (by omega) hok
    have hmk2 : (b.getD i (cL (cZi kb)).dflt).length * (kb + kb + 1) ≤ 17179869184 := by rw [hmi]; exact hmk
    have hMl : (ML b i).length = i := ML_len
    have hSl : (SL b i).length = i := SL_len
    refine tri_skip ?_
    refine nx (sl 0 rfl (sl 2 rfl (sl 4 rfl (sl 5 rfl sn)))) (el 10 rfl (el 8 rfl (el 9 rfl (el 110 rfl en)))) ?_
    refine tri_seq ?_
    refine tri_block ?_
    refine tri_seq ?_
    refine tri_reg mixed hcx ?_ _ _
    refine asg rfl ?_
    refine ⟨by kernel_rfl, ?_⟩
    refine nx (sl 0 rfl (sl 2 rfl (sl 4 rfl (sl 5 rfl (sl 6 rfl sn))))) (el 10 rfl (el 8 rfl (el 9 rfl (el 110 rfl en)))) ?_
    refine tri_seq ?_
    refine tri_seq ?_
    refine tri_nil 6 7 46 (cQ K) rfl (by rw [hcx]; kernel_rfl) ?_
    refine tri_reg mixed hcx ?_ _ _
    refine asg rfl ?_
    refine ⟨by kernel_rfl, ?_⟩
    refine nx (sl 0 rfl (sl 2 rfl (sl 4 rfl (sl 5 rfl (sl 6 rfl (sl 7 rfl sn)))))) (el 10 rfl (el 8 rfl (el 9 rfl (el 110 rfl (el 7 rfl en))))) ?_
    refine tri_block ?_
    refine tri_loop (ι := Nat) (fun j => [(0, T.l (cL (cZi kb)) b), (2, T.p 10 0), (4, T.p 110 0), (5, T.c (.int .i64 (i : Int))), (6, T.o 7), (7, T.c (.int .i64 (j : Int)))]) (fun j => [(10, some (Ent.box 105 [T.c (.slice none 0 0), T.c (.slice none 0 0)])), (8, some (Ent.row (cL (cQ K)) 95 (ML b i))), (9, some (Ent.row (cQ K) 46 (SL b i))), (110, some (Ent.box 105 [T.o 8, T.o 9])), (7, some (Ent.row (cQ K) 46 (mL b i j)))]) (fun j => i - j) (fun j => (j ≤ i)) 0 (Nat.zero_le _) (sl 0 rfl (sl 2 rfl (sl 4 rfl (sl 5 rfl (sl 6 rfl (sl 7 rfl sn)))))) (el 10 rfl (el 8 rfl (el 9 rfl (el 110 rfl (el 7 rfl en))))) ?_
    rintro j hj
    refine tri_sub (sl 0 rfl (sl 2 rfl (sl 4 rfl (sl 5 rfl (sl 6 rfl (sl 7 rfl sn)))))) (el 10 rfl (el 8 rfl (el 9 rfl (el 110 rfl (el 7 rfl en))))) ?_
    refine tri_seq ?_
    refine tri_seq ?_
    refine tri_reg mixed hcx ?_ _ _
    refine mv rfl ?_
    refine mv rfl ?_
    refine clt rfl rfl rfl ?_
    refine ⟨by kernel_rfl, ?_⟩
    refine nx (sl 0 rfl (sl 2 rfl (sl 4 rfl (sl 5 rfl (sl 6 rfl (sl 7 rfl (sl 20 rfl sn))))))) (el 10 rfl (el 8 rfl (el 9 rfl (el 110 rfl (el 7 rfl en))))) ?_
    refine tri_if rfl (fun hd => ?_) (fun hd => ?_)
    · have hmj : (b.getD j (cL (cZi kb)).dflt).length = m := hm j (by omega)
      have hsj : sR b j ≠ 0 := ok_ne hok (by omega)
      have hml : (mL b i j).length = j := mL_len
      have hMj : ((ML b i).getD j (cL (cQ K)).dflt).length = j := by rw [show (ML b i).getD j (cL (cQ K)).dflt = mL b j j from ML_at (by omega), mL_len]
      refine tri_skip ?_
      refine nx (sl 0 rfl (sl 2 rfl (sl 4 rfl (sl 5 rfl (sl 6 rfl (sl 7 rfl sn)))))) (el 10 rfl (el 8 rfl (el 9 rfl (el 110 rfl (el 7 rfl en))))) ?_
      refine tri_seq ?_
      refine tri_block ?_
      refine tri_seq ?_
      refine tri_reg mixed hcx ?_ _ _
      refine mv rfl ?_
      refine mv rfl ?_
      refine ix rfl rfl slZss ⟨rfl, by omega⟩ ?_
      refine lf rfl tyZs ?_
      refine mv rfl ?_
      refine mv rfl ?_
      refine ix rfl rfl slZss ⟨rfl, by omega⟩ ?_
      refine lf rfl tyZs ?_
      refine ca rfl (h := r05_Dot (by omega) (by omega) (by omega) (by omega) (by omega)) (hn := ?_)
      refine ca rfl (h := r03_Of (by omega)) (hn := ?_)
      refine nw 920 zeQ ?_
      refine st rfl rfl rfl tyQ rfl ?_
      refine ⟨by kernel_rfl, ?_⟩
      refine nx (sl 0 rfl (sl 2 rfl (sl 4 rfl (sl 5 rfl (sl 6 rfl (sl 7 rfl (sl 8 rfl sn))))))) (el 10 rfl (el 8 rfl (el 9 rfl (el 110 rfl (el 7 rfl (el 920 rfl en)))))) ?_
      refine tri_seq ?_
      refine tri_seq ?_
      refine tri_reg mixed hcx ?_ _ _
      refine asg rfl ?_
      refine ⟨by kernel_rfl, ?_⟩
      refine nx (sl 0 rfl (sl 2 rfl (sl 4 rfl (sl 5 rfl (sl 6 rfl (sl 7 rfl (sl 8 rfl (sl 9 rfl sn)))))))) (el 10 rfl (el 8 rfl (el 9 rfl (el 110 rfl (el 7 rfl (el 920 rfl en)))))) ?_
      refine tri_block ?_
      refine tri_loop (ι := Nat) (fun e => [(0, T.l (cL (cZi kb)) b), (2, T.p 10 0), (4, T.p 110 0), (5, T.c (.int .i64 (i : Int))), (6, T.o 7), (7, T.c (.int .i64 (j : Int))), (8, T.p 920 0), (9, T.c (.int .i64 (e : Int)))]) (fun e => [(10, some (Ent.box 105 [T.c (.slice none 0 0), T.c (.slice none 0 0)])), (8, some (Ent.row (cL (cQ K)) 95 (ML b i))), (9, some (Ent.row (cQ K) 46 (SL b i))), (110, some (Ent.box 105 [T.o 8, T.o 9])), (7, some (Ent.row (cQ K) 46 (mL b i j))), (920, some (Ent.box 46 [T.Q (Mr (gR b) e i j) K]))]) (fun e => j - e) (fun e => (e ≤ j)) 0 (Nat.zero_le _) (sl 0 rfl (sl 2 rfl (sl 4 rfl (sl 5 rfl (sl 6 rfl (sl 7 rfl (sl 8 rfl (sl 9 rfl sn)))))))) (el 10 rfl (el 8 rfl (el 9 rfl (el 110 rfl (el 7 rfl (ew 920 rfl (box_pack1 (q_qb rfl (hQi 0 j (by omega) (by omega)))) en)))))) ?_
      rintro e he
      refine tri_sub (sl 0 rfl (sl 2 rfl (sl 4 rfl (sl 5 rfl (sl 6 rfl (sl 7 rfl (sl 8 rfl (sl 9 rfl sn)))))))) (el 10 rfl (el 8 rfl (el 9 rfl (el 110 rfl (el 7 rfl (el 920 rfl en)))))) ?_
      refine tri_seq ?_
      refine tri_seq ?_
      refine tri_reg mixed hcx ?_ _ _
      refine mv rfl ?_
      refine mv rfl ?_
      refine clt rfl rfl rfl ?_
      refine ⟨by kernel_rfl, ?_⟩
      refine nx (sl 0 rfl (sl 2 rfl (sl 4 rfl (sl 5 rfl (sl 6 rfl (sl 7 rfl (sl 8 rfl (sl 9 rfl (sl 35 rfl sn))))))))) (el 10 rfl (el 8 rfl (el 9 rfl (el 110 rfl (el 7 rfl (el 920 rfl en)))))) ?_
      refine tri_if rfl (fun he2 => ?_) (fun he2 => ?_)
      · have hse : sR b e ≠ 0 := ok_ne hok (by omega)
        refine tri_skip ?_
        refine nx (sl 0 rfl (sl 2 rfl (sl 4 rfl (sl 5 rfl (sl 6 rfl (sl 7 rfl (sl 8 rfl (sl 9 rfl sn)))))))) (el 10 rfl (el 8 rfl (el 9 rfl (el 110 rfl (el 7 rfl (el 920 rfl en)))))) ?_
        refine tri_seq ?_
        refine tri_block ?_
        refine tri_reg mixed hcx ?_ _ _
        refine ld rfl rfl tyQ rfl ?_
        refine fa rfl fMu 0 ?_
        refine ld rfl rfl tyQss rfl ?_
        refine mv rfl ?_
        refine ixo rfl rfl rfl slQss ⟨rfl, by omega⟩ ?_
        refine lo _ rfl rfl tyQs ⟨rfl, rfl, by omega⟩ ?_
        refine mv rfl ?_
        refine ix rfl rfl slQs ⟨rfl, by omega⟩ ?_
        refine lf rfl tyQ ?_
        refine mv rfl ?_
        refine mv rfl ?_
        refine ixo rfl rfl rfl slQs ⟨rfl, by omega⟩ ?_
        refine lo _ rfl rfl tyQ ⟨rfl, rfl, by omega⟩ ?_
        refine ca rfl (h := r03_Mul (by omega) (by omega)) (hn := ?_)
        refine fa rfl fStar 1 ?_
        refine ld rfl rfl tyQs rfl ?_
        refine mv rfl ?_
        refine ixo rfl rfl rfl slQs ⟨rfl, by omega⟩ ?_
        refine lo _ rfl rfl tyQ ⟨rfl, rfl, by omega⟩ ?_
        refine ca rfl (h := r03_Mul (by omega) (by omega)) (hn := ?_)
        refine ca rfl (h := r03_Sub (by omega) (by omega)) (hn := ?_)
        refine st rfl rfl rfl tyQ rfl ?_
        refine ⟨by kernel_rfl, ?_⟩
        refine pn_blk ?_
        refine nx (sl 0 rfl (sl 2 rfl (sl 4 rfl (sl 5 rfl (sl 6 rfl (sl 7 rfl (sl 8 rfl (sl 9 rfl sn)))))))) (el 10 rfl (el 8 rfl (el 9 rfl (el 110 rfl (el 7 rfl (el 920 rfl en)))))) ?_
        refine tri_reg mixed hcx ?_ _ _
        refine mv rfl ?_
        refine ad (((e + 1 : Nat) : Int)) rfl rfl rfl (by omega) ?_
        refine asg rfl ?_
        refine ⟨by kernel_rfl, ?_⟩
        exact pn_back (e + 1) (by first | omega | (dsimp only; omega)) (by omega) (sl 0 rfl (sl 2 rfl (sl 4 rfl (sl 5 rfl (sl 6 rfl (sl 7 rfl (sl 8 rfl (sl 9 rfl sn)))))))) (el 10 rfl (el 8 rfl (el 9 rfl (el 110 rfl (el 7 rfl (ew 920 rfl (box_pack1 (q_qb (by rw [show (ML b i).getD j (cL (cQ K)).dflt = mL b j j from ML_at (by omega), show (mL b j j).getD e (cQ K).dflt = mR b j e from mL_at (by omega), show (mL b i j).getD e (cQ K).dflt = mR b i e from mL_at (by omega), show (SL b i).getD e (cQ K).dflt = sR b e from SL_at (by omega)]; exact mr_step b hse) (hQi (e + 1) j (by omega) (by omega)))) en))))))
      · refine tri_exit ?_
        repeat (first | refine pn_then ?_ | refine pn_oth (by decide) ?_)
        refine pn_ex ?_
        obtain rfl : j = e := by omega
        refine nx (sl 0 rfl (sl 2 rfl (sl 4 rfl (sl 5 rfl (sl 6 rfl (sl 7 rfl (sl 8 rfl sn))))))) (el 10 rfl (el 8 rfl (el 9 rfl (el 110 rfl (el 7 rfl (el 920 rfl en)))))) ?_
        refine tri_reg mixed hcx ?_ _ _
        refine mv rfl ?_
        refine ld rfl rfl tyQ rfl ?_
        refine fa rfl fStar 1 ?_
        refine ld rfl rfl tyQs rfl ?_
        refine mv rfl ?_
        refine ixo rfl rfl rfl slQs ⟨rfl, by omega⟩ ?_
        refine lo _ rfl rfl tyQ ⟨rfl, rfl, by omega⟩ ?_
        refine ca rfl (h := r03_Div (by rw [show (SL b i).getD j (cQ K).dflt = sR b j from SL_at (by omega)]; exact hsj) (by omega) (by omega)) (hn := ?_)
        refine bs (c := cQ K) (xs := [mR b i j]) slQs rfl ⟨q_qb (by rw [show (SL b i).getD j (cQ K).dflt = sR b j from SL_at (by omega)]; rfl) (hM i j (by omega) (by omega) hok), trivial⟩ ?_
        refine ap 1419 rfl rfl rfl slQs (by simp only [List.length_cons, List.length_nil]; omega) (by decide) ?_
        refine asg rfl ?_
        refine ⟨by kernel_rfl, ?_⟩
        refine pn_blk ?_
        refine nx (sl 0 rfl (sl 2 rfl (sl 4 rfl (sl 5 rfl (sl 6 rfl (sl 7 rfl sn)))))) (el 10 rfl (el 8 rfl (el 9 rfl (el 110 rfl (el 920 rfl (el 1419 rfl en)))))) ?_
        refine tri_reg mixed hcx ?_ _ _
        refine mv rfl ?_
        refine ad (((j + 1 : Nat) : Int)) rfl rfl rfl (by omega) ?_
        refine asg rfl ?_
        refine ⟨by kernel_rfl, ?_⟩
        refine pn_sub (sl 0 rfl (sl 2 rfl (sl 4 rfl (sl 5 rfl (sl 6 rfl (sl 7 rfl sn)))))) (el 10 rfl (el 8 rfl (el 9 rfl (el 110 rfl (el 920 rfl (el 1419 rfl en)))))) ?_
        refine pn_ren 6 7 1419 rfl rfl (by rw [hcx]; kernel_rfl) ?_
        exact pn_back (j + 1) (by first | omega | (dsimp only; omega)) (by omega) (sl 0 rfl (sl 2 rfl (sl 4 rfl (sl 5 rfl (sl 6 rfl (sl 7 rfl sn)))))) (el 10 rfl (el 8 rfl (el 9 rfl (el 110 rfl (ew 7 rfl (.of (by rw [mL_succ])) en)))))
    · refine tri_exit ?_
      repeat (first | refine pn_then ?_ | refine pn_oth (by decide) ?_)
      refine pn_ex ?_
      obtain rfl : i = j := by omega
      refine nx (sl 0 rfl (sl 2 rfl (sl 4 rfl (sl 5 rfl (sl 6 rfl sn))))) (el 10 rfl (el 8 rfl (el 9 rfl (el 110 rfl (el 7 rfl en))))) ?_
      refine tri_seq ?_
      refine tri_reg mixed hcx ?_ _ _
      refine mv rfl ?_
      refine mv rfl ?_
      refine ix rfl rfl slZss ⟨rfl, by omega⟩ ?_
      refine lf rfl tyZs ?_
      refine mv rfl ?_
      refine mv rfl ?_
      refine ix rfl rfl slZss ⟨rfl, by omega⟩ ?_
      refine lf rfl tyZs ?_
      refine ca rfl (h := r05_Dot (by omega) (by omega) (by omega) (by omega) (by omega)) (hn := ?_)
      refine ca rfl (h := r03_Of (by omega)) (hn := ?_)
      refine nw 1520 zeQ ?_
      refine st rfl rfl rfl tyQ rfl ?_
      refine ⟨by kernel_rfl, ?_⟩
      refine nx (sl 0 rfl (sl 2 rfl (sl 4 rfl (sl 5 rfl (sl 6 rfl (sl 10 rfl sn)))))) (el 10 rfl (el 8 rfl (el 9 rfl (el 110 rfl (el 7 rfl (el 1520 rfl en)))))) ?_
      refine tri_seq ?_
      refine tri_seq ?_
      refine tri_reg mixed hcx ?_ _ _
      refine asg rfl ?_
      refine ⟨by kernel_rfl, ?_⟩
      refine nx (sl 0 rfl (sl 2 rfl (sl 4 rfl (sl 5 rfl (sl 6 rfl (sl 10 rfl (sl 11 rfl sn))))))) (el 10 rfl (el 8 rfl (el 9 rfl (el 110 rfl (el 7 rfl (el 1520 rfl en)))))) ?_
      refine tri_block ?_
      refine tri_loop (ι := Nat) (fun e => [(0, T.l (cL (cZi kb)) b), (2, T.p 10 0), (4, T.p 110 0), (5, T.c (.int .i64 (i : Int))), (6, T.o 7), (10, T.p 1520 0), (11, T.c (.int .i64 (e : Int)))]) (fun e => [(10, some (Ent.box 105 [T.c (.slice none 0 0), T.c (.slice none 0 0)])), (8, some (Ent.row (cL (cQ K)) 95 (ML b i))), (9, some (Ent.row (cQ K) 46 (SL b i))), (110, some (Ent.box 105 [T.o 8, T.o 9])), (7, some (Ent.row (cQ K) 46 (mL b i i))), (1520, some (Ent.box 46 [T.Q (Mr (gR b) e i i) K]))]) (fun e => i - e) (fun e => (e ≤ i)) 0 (Nat.zero_le _) (sl 0 rfl (sl 2 rfl (sl 4 rfl (sl 5 rfl (sl 6 rfl (sl 10 rfl (sl 11 rfl sn))))))) (el 10 rfl (el 8 rfl (el 9 rfl (el 110 rfl (el 7 rfl (ew 1520 rfl (box_pack1 (q_qb rfl (hQi 0 i (by omega) (by omega)))) en)))))) ?_
      rintro e he
      refine tri_sub (sl 0 rfl (sl 2 rfl (sl 4 rfl (sl 5 rfl (sl 6 rfl (sl 10 rfl (sl 11 rfl sn))))))) (el 10 rfl (el 8 rfl (el 9 rfl (el 110 rfl (el 7 rfl (el 1520 rfl en)))))) ?_
      have hml : (mL b i i).length = i := mL_len
      refine tri_seq ?_
      refine tri_seq ?_
      refine tri_reg mixed hcx ?_ _ _
      refine mv rfl ?_
      refine mv rfl ?_
      refine clt rfl rfl rfl ?_
      refine ⟨by kernel_rfl, ?_⟩
      refine nx (sl 0 rfl (sl 2 rfl (sl 4 rfl (sl 5 rfl (sl 6 rfl (sl 10 rfl (sl 11 rfl (sl 81 rfl sn)))))))) (el 10 rfl (el 8 rfl (el 9 rfl (el 110 rfl (el 7 rfl (el 1520 rfl en)))))) ?_
      refine tri_if rfl (fun he3 => ?_) (fun he3 => ?_)
      · have hse : sR b e ≠ 0 := ok_ne hok (by omega)
        refine tri_skip ?_
        refine nx (sl 0 rfl (sl 2 rfl (sl 4 rfl (sl 5 rfl (sl 6 rfl (sl 10 rfl (sl 11 rfl sn))))))) (el 10 rfl (el 8 rfl (el 9 rfl (el 110 rfl (el 7 rfl (el 1520 rfl en)))))) ?_
        refine tri_seq ?_
        refine tri_block ?_
        refine tri_reg mixed hcx ?_ _ _
        refine ld rfl rfl tyQ rfl ?_
        refine mv rfl ?_
        refine mv rfl ?_
        refine ixo rfl rfl rfl slQs ⟨rfl, by omega⟩ ?_
        refine lo _ rfl rfl tyQ ⟨rfl, rfl, by omega⟩ ?_
        refine ca rfl (h := r05_square (by omega)) (hn := ?_)
        refine fa rfl fStar 1 ?_
        refine ld rfl rfl tyQs rfl ?_
        refine mv rfl ?_
        refine ixo rfl rfl rfl slQs ⟨rfl, by omega⟩ ?_
        refine lo _ rfl rfl tyQ ⟨rfl, rfl, by omega⟩ ?_
        refine ca rfl (h := r03_Mul (by omega) (by omega)) (hn := ?_)
        refine ca rfl (h := r03_Sub (by omega) (by omega)) (hn := ?_)
        refine st rfl rfl rfl tyQ rfl ?_
        refine ⟨by kernel_rfl, ?_⟩
        refine pn_blk ?_
        refine nx (sl 0 rfl (sl 2 rfl (sl 4 rfl (sl 5 rfl (sl 6 rfl (sl 10 rfl (sl 11 rfl sn))))))) (el 10 rfl (el 8 rfl (el 9 rfl (el 110 rfl (el 7 rfl (el 1520 rfl en)))))) ?_
        refine tri_reg mixed hcx ?_ _ _
        refine mv rfl ?_
        refine ad (((e + 1 : Nat) : Int)) rfl rfl rfl (by omega) ?_
        refine asg rfl ?_
        refine ⟨by kernel_rfl, ?_⟩
        exact pn_back (e + 1) (by first | omega | (dsimp only; omega)) (by omega) (sl 0 rfl (sl 2 rfl (sl 4 rfl (sl 5 rfl (sl 6 rfl (sl 10 rfl (sl 11 rfl sn))))))) (el 10 rfl (el 8 rfl (el 9 rfl (el 110 rfl (el 7 rfl (ew 1520 rfl (box_pack1 (q_qb (by rw [show (mL b i i).getD e (cQ K).dflt = mR b i e from mL_at (by omega), show (SL b i).getD e (cQ K).dflt = sR b e from SL_at (by omega)]; exact mr_step2 b hse) (hQi (e + 1) i (by omega) (by omega)))) en))))))
      · refine tri_exit ?_
        repeat (first | refine pn_then ?_ | refine pn_oth (by decide) ?_)
        refine pn_ex ?_
        obtain rfl : i = e := by omega
        refine nx (sl 0 rfl (sl 2 rfl (sl 4 rfl (sl 5 rfl (sl 6 rfl (sl 10 rfl sn)))))) (el 10 rfl (el 8 rfl (el 9 rfl (el 110 rfl (el 7 rfl (el 1520 rfl en)))))) ?_
        refine tri_seq ?_
        refine tri_seq ?_
        have hps : 0 < sR b i := hall i (by omega)
        · have hnx : Ok b (i + 1) := fun k hk => by rcases Nat.lt_or_eq_of_le (Nat.le_of_lt_succ hk) with h8 | h8; exact hok k h8; rw [h8]; exact hps
          have hsg : sg (Mr (gR b) i i i).num = 1 := sg_pos (q_pos.1 hps)
          refine tri_sub (sl 0 rfl (sl 2 rfl (sl 4 rfl (sl 5 rfl (sl 6 rfl (sl 10 rfl sn)))))) (el 10 rfl (el 8 rfl (el 9 rfl (el 110 rfl (el 7 rfl (ew 1520 rfl box_open en)))))) ?_
          refine tri_reg mixed hcx ?_ _ _
          refine fa rfl fNum 0 ?_
          refine ld rfl rfl tyZ rfl ?_
          refine ca rfl (h := r02_Sign (by omega)) (hn := ?_)
          refine cle rfl rfl (decide_eq_false (by omega)) ?_
          refine ⟨by kernel_rfl, ?_⟩
          refine nx (sl 0 rfl (sl 2 rfl (sl 4 rfl (sl 5 rfl (sl 6 rfl (sl 10 rfl (sl 100 rfl sn))))))) (el 10 rfl (el 8 rfl (el 9 rfl (el 110 rfl (el 7 rfl (el 1520 rfl en)))))) ?_
          refine tri_false rfl rfl ?_
          refine tri_skip ?_
          refine nx (sl 0 rfl (sl 2 rfl (sl 4 rfl (sl 5 rfl (sl 6 rfl (sl 10 rfl sn)))))) (el 10 rfl (el 8 rfl (el 9 rfl (el 110 rfl (el 7 rfl (el 1520 rfl en)))))) ?_
          refine tri_seq ?_
          refine tri_fz 7 rfl ?_
          refine tri_rd 6 7 rfl rfl ?_
          refine tri_reg mixed hcx ?_ _ _
          refine fa rfl fMu 0 ?_
          refine ld rfl rfl tyQss rfl ?_
          refine mv rfl ?_
          refine bs (c := cL (cQ K)) (xs := [mL b i i]) slQss rfl ⟨.refl _, trivial⟩ ?_
          refine ap 2214 rfl rfl rfl slQss (by simp only [List.length_cons, List.length_nil]; omega) (by decide) ?_
          refine fa rfl fMu 0 ?_
          refine st rfl rfl rfl tyQss rfl ?_
          refine ⟨by kernel_rfl, ?_⟩
          refine nx (sl 0 rfl (sl 2 rfl (sl 4 rfl (sl 5 rfl (sl 10 rfl sn))))) (el 10 rfl (el 9 rfl (el 110 rfl (el 1520 rfl (el 2214 rfl en))))) ?_
          refine tri_reg mixed hcx ?_ _ _
          refine fa rfl fStar 1 ?_
          refine ld rfl rfl tyQs rfl ?_
          refine ld rfl rfl tyQ rfl ?_
          refine bs (c := cQ K) (xs := [sR b i]) slQs rfl ⟨.refl _, trivial⟩ ?_
          refine ap 2314 rfl rfl rfl slQs (by simp only [List.length_cons, List.length_nil]; omega) (by decide) ?_
          refine fa rfl fStar 1 ?_
          refine st rfl rfl rfl tyQs rfl ?_
          refine ⟨by kernel_rfl, ?_⟩
          refine pn_blk ?_
          refine nx (sl 0 rfl (sl 2 rfl (sl 4 rfl (sl 5 rfl sn)))) (el 10 rfl (el 110 rfl (el 1520 rfl (el 2214 rfl (el 2314 rfl en))))) ?_
          refine tri_reg mixed hcx ?_ _ _
          refine mv rfl ?_
          refine ad (((i + 1 : Nat) : Int)) rfl rfl rfl (by omega) ?_
          refine asg rfl ?_
          refine ⟨by kernel_rfl, ?_⟩
          refine pn_sub (sl 0 rfl (sl 2 rfl (sl 4 rfl (sl 5 rfl sn)))) (el 10 rfl (el 110 rfl (el 2214 rfl (el 2314 rfl en)))) ?_
          refine pn_renb (bl := [T.o 2214, T.o 2314]) (bl' := [T.o 8, T.o 2314]) 110 8 2214 rfl rfl ⟨.inr ⟨rfl, rfl⟩, .inl ⟨rfl, by show 8 ∉ [2314]; decide⟩, trivial⟩ (by rw [hcx]; kernel_rfl) rfl ?_
          refine pn_renb (bl := [T.o 8, T.o 2314]) (bl' := [T.o 8, T.o 9]) 110 9 2314 rfl rfl ⟨.inl ⟨rfl, by show 9 ∉ [8]; decide⟩, .inr ⟨rfl, rfl⟩, trivial⟩ (by rw [hcx]; kernel_rfl) rfl ?_
          exact pn_back (i + 1) (by first | omega | (dsimp only; omega)) ⟨by omega, hnx⟩ (sl 0 rfl (sl 2 rfl (sl 4 rfl (sl 5 rfl sn)))) (el 10 rfl (ew 8 rfl (.of (by rw [ML_succ])) (ew 9 rfl (.of (by rw [SL_succ])) (el 110 rfl en))))
  · refine tri_exit ?_
    repeat (first | refine pn_then ?_ | refine pn_oth (by decide) ?_)
    refine pn_ex ?_
    have hin : i = b.length := by omega
    subst hin
    refine nx (sl 2 rfl (sl 4 rfl sn)) (el 10 rfl (el 8 rfl (el 9 rfl (el 110 rfl en)))) ?_
    refine tri_seq ?_
    refine tri_fz 8 rfl ?_
    refine tri_rdb (bl := [T.o 8, T.o 9]) (bl' := [T.l (cL (cQ K)) (ML b b.length), T.o 9]) 110 8 rfl rfl ⟨.inr ⟨rfl, rfl⟩, .inl rfl, trivial⟩ ?_
    refine tri_fz 9 rfl ?_
    refine tri_rdb (bl := [T.l (cL (cQ K)) (ML b b.length), T.o 9]) (bl' := [T.l (cL (cQ K)) (ML b b.length), T.l (cQ K) (SL b b.length)]) 110 9 rfl rfl ⟨.inl rfl, .inr ⟨rfl, rfl⟩, trivial⟩ ?_
    refine tri_reg mixed hcx ?_ _ _
    refine ld rfl rfl tyR rfl ?_
    refine st rfl rfl rfl tyR rfl ?_
    refine asg rfl ?_
    refine ⟨by kernel_rfl, ?_⟩
    refine nx (sl 2 rfl (sl 3 rfl sn)) (el 10 rfl (el 110 rfl en)) ?_
    refine tri_ret ?_
    repeat (first | refine pn_thenr ?_ | refine pn_blkr ?_)
    exact ret2 hcx rfl (rv_cell (c' := cx) (n := 0) rfl rfl tyR rfl) (rv_tmp rfl) (.refl _) en

theorem r05_Make_no {b : List (List Int)} {kb m K : Nat} (hno : ¬ Ok b b.length) (hbl : b.length ≤ 1048576) (hm : ∀ i, i < b.length → (b.getD i []).length = m) (hmm : m ≤ 1048576) (hkb : kb ≤ 1048576) (hmk : m * (kb + kb + 1) ≤ 17179869184) (hQ : ∀ i, i < b.length → Ok b i → ∀ k j, k ≤ j → j ≤ i → QB (Mr (gR b) k i j) K) (hM : ∀ i j, j < i → i < b.length → Ok b i → QB (mR b i j) K) (hK : K ≤ 268435456) : Fn Try.prog 134 [T.l (cL (cZi kb)) b] [] [] [] (T.tup [T.st [T.any, T.any], T.c (.bool false)]) := by
  refine fn_of Try.func134 rfl (by show 1 ≤ 115; decide) fun cx hcx => ?_
  refine tri_sub (sl 0 rfl sn) en ?_
  refine tri_seq ?_
  refine tri_reg mixed hcx ?_ _ _
  refine nw 10 zeR ?_
  refine asg rfl ?_
  refine ⟨by kernel_rfl, ?_⟩
  refine nx (sl 0 rfl (sl 2 rfl sn)) (el 10 rfl en) ?_
  refine tri_seq ?_
  refine tri_reg mixed hcx ?_ _ _
  refine nw 110 zeR ?_
  refine ⟨by kernel_rfl, ?_⟩
  refine nx (sl 0 rfl (sl 2 rfl (sl 4 rfl sn))) (el 10 rfl (el 110 rfl en)) ?_
  refine tri_seq ?_
  refine tri_seq ?_
  refine tri_nilb (cL (cQ K)) 95 (bl := [T.c (.slice none 0 0), T.c (.slice none 0 0)]) (bl' := [T.o 8, T.c (.slice none 0 0)]) 110 8 rfl ⟨.inr ⟨rfl, rfl⟩, .inl ⟨rfl, by show 8 ∉ []; decide⟩, trivial⟩ (by rw [hcx]; kernel_rfl) ?_
  refine tri_nilb (cQ K) 46 (bl := [T.o 8, T.c (.slice none 0 0)]) (bl' := [T.o 8, T.o 9]) 110 9 rfl ⟨.inl ⟨rfl, by show 9 ∉ [8]; decide⟩, .inr ⟨rfl, rfl⟩, trivial⟩ (by rw [hcx]; kernel_rfl) ?_
  refine tri_reg mixed hcx ?_ _ _
  refine asg rfl ?_
  refine ⟨by kernel_rfl, ?_⟩
  refine nx (sl 0 rfl (sl 2 rfl (sl 4 rfl (sl 5 rfl sn)))) (el 10 rfl (el 110 rfl (el 8 rfl (el 9 rfl en)))) ?_
  refine tri_block ?_
  refine tri_loop (ι := Nat) (fun i => [(0, T.l (cL (cZi kb)) b), (2, T.p 10 0), (4, T.p 110 0), (5, T.c (.int .i64 (i : Int)))]) (fun i => [(10, some (Ent.box 105 [T.c (.slice none 0 0), T.c (.slice none 0 0)])), (8, some (Ent.row (cL (cQ K)) 95 (ML b i))), (9, some (Ent.row (cQ K) 46 (SL b i))), (110, some (Ent.box 105 [T.o 8, T.o 9]))]) (fun i => b.length - i) (fun i => (i ≤ b.length) ∧ (Ok b i)) 0 ⟨Nat.zero_le _, fun k hk => absurd hk (Nat.not_lt_zero _)⟩ (sl 0 rfl (sl 2 rfl (sl 4 rfl (sl 5 rfl sn)))) (el 10 rfl (el 8 rfl (el 9 rfl (el 110 rfl en)))) ?_
  rintro i ⟨hi, hok⟩
  refine tri_sub (sl 0 rfl (sl 2 rfl (sl 4 rfl (sl 5 rfl sn)))) (el 10 rfl (el 8 rfl (el 9 rfl (el 110 rfl en)))) ?_
  refine tri_seq ?_
  refine tri_seq ?_
  refine tri_reg mixed hcx ?_ _ _
  refine mv rfl ?_
  refine mv rfl ?_
  refine ln slZss rfl ?_
  refine clt rfl rfl rfl ?_
  refine ⟨by kernel_rfl, ?_⟩
  refine nx (sl 0 rfl (sl 2 rfl (sl 4 rfl (sl 5 rfl (sl 15 rfl sn))))) (el 10 rfl (el 8 rfl (el 9 rfl (el 110 rfl en)))) ?_
  refine tri_if rfl (fun hc => ?_) (fun hc => ?_)
  · have hmi : (b.getD i (cL (cZi kb)).dflt).length = m := hm i (by omega)
    have hQi := hQ i (by omega) hok
    have hmk2 : (b.getD i (cL (cZi kb)).dflt).length * (kb + kb + 1) ≤ 17179869184 := by rw [hmi]; exact hmk
    have hMl : (ML b i).length = i := ML_len
    have hSl : (SL b i).length = i := SL_len
    refine tri_skip ?_
    refine nx (sl 0 rfl (sl 2 rfl (sl 4 rfl (sl 5 rfl sn)))) (el 10 rfl (el 8 rfl (el 9 rfl (el 110 rfl en)))) ?_
    refine tri_seq ?_
    refine tri_block ?_
    refine tri_seq ?_
    refine tri_reg mixed hcx ?_ _ _
    refine asg rfl ?_
    refine ⟨by kernel_rfl, ?_⟩
    refine nx (sl 0 rfl (sl 2 rfl (sl 4 rfl (sl 5 rfl (sl 6 rfl sn))))) (el 10 rfl (el 8 rfl (el 9 rfl (el 110 rfl en)))) ?_
    refine tri_seq ?_
    refine tri_seq ?_
    refine tri_nil 6 7 46 (cQ K) rfl (by rw [hcx]; kernel_rfl) ?_
    refine tri_reg mixed hcx ?_ _ _
    refine asg rfl ?_
    refine ⟨by kernel_rfl, ?_⟩
    refine nx (sl 0 rfl (sl 2 rfl (sl 4 rfl (sl 5 rfl (sl 6 rfl (sl 7 rfl sn)))))) (el 10 rfl (el 8 rfl (el 9 rfl (el 110 rfl (el 7 rfl en))))) ?_
    refine tri_block ?_
    refine tri_loop (ι := Nat) (fun j => [(0, T.l (cL (cZi kb)) b), (2, T.p 10 0), (4, T.p 110 0), (5, T.c (.int .i64 (i : Int))), (6, T.o 7), (7, T.c (.int .i64 (j : Int)))]) (fun j => [(10, some (Ent.box 105 [T.c (.slice none 0 0), T.c (.slice none 0 0)])), (8, some (Ent.row (cL (cQ K)) 95 (ML b i))), (9, some (Ent.row (cQ K) 46 (SL b i))), (110, some (Ent.box 105 [T.o 8, T.o 9])), (7, some (Ent.row (cQ K) 46 (mL b i j)))]) (fun j => i - j) (fun j => (j ≤ i)) 0 (Nat.zero_le _) (sl 0 rfl (sl 2 rfl (sl 4 rfl (sl 5 rfl (sl 6 rfl (sl 7 rfl sn)))))) (el 10 rfl (el 8 rfl (el 9 rfl (el 110 rfl (el 7 rfl en))))) ?_
    rintro j hj
    refine tri_sub (sl 0 rfl (sl 2 rfl (sl 4 rfl (sl 5 rfl (sl 6 rfl (sl 7 rfl sn)))))) (el 10 rfl (el 8 rfl (el 9 rfl (el 110 rfl (el 7 rfl en))))) ?_
    refine tri_seq ?_
    refine tri_seq ?_
    refine tri_reg mixed hcx ?_ _ _
    refine mv rfl ?_
    refine mv rfl ?_
    refine clt rfl rfl rfl ?_
    refine ⟨by kernel_rfl, ?_⟩
    refine nx (sl 0 rfl (sl 2 rfl (sl 4 rfl (sl 5 rfl (sl 6 rfl (sl 7 rfl (sl 20 rfl sn))))))) (el 10 rfl (el 8 rfl (el 9 rfl (el 110 rfl (el 7 rfl en))))) ?_
    refine tri_if rfl (fun hd => ?_) (fun hd => ?_)
    · have hmj : (b.getD j (cL (cZi kb)).dflt).length = m := hm j (by omega)
      have hsj : sR b j ≠ 0 := ok_ne hok (by omega)
      have hml : (mL b i j).length = j := mL_len
      have hMj : ((ML b i).getD j (cL (cQ K)).dflt).length = j := by rw [show (ML b i).getD j (cL (cQ K)).dflt = mL b j j from ML_at (by omega), mL_len]
      refine tri_skip ?_
      refine nx (sl 0 rfl (sl 2 rfl (sl 4 rfl (sl 5 rfl (sl 6 rfl (sl 7 rfl sn)))))) (el 10 rfl (el 8 rfl (el 9 rfl (el 110 rfl (el 7 rfl en))))) ?_
      refine tri_seq ?_
      refine tri_block ?_
      refine tri_seq ?_
      refine tri_reg mixed hcx ?_ _ _
      refine mv rfl ?_
      refine mv rfl ?_
      refine ix rfl rfl slZss ⟨rfl, by omega⟩ ?_
      refine lf rfl tyZs ?_
      refine mv rfl ?_
      refine mv rfl ?_
      refine ix rfl rfl slZss ⟨rfl, by omega⟩ ?_
      refine lf rfl tyZs ?_
      refine ca rfl (h := r05_Dot (by omega) (by omega) (by omega) (by omega) (by omega)) (hn := ?_)
      refine ca rfl (h := r03_Of (by omega)) (hn := ?_)
      refine nw 920 zeQ ?_
      refine st rfl rfl rfl tyQ rfl ?_
      refine ⟨by kernel_rfl, ?_⟩
      refine nx (sl 0 rfl (sl 2 rfl (sl 4 rfl (sl 5 rfl (sl 6 rfl (sl 7 rfl (sl 8 rfl sn))))))) (el 10 rfl (el 8 rfl (el 9 rfl (el 110 rfl (el 7 rfl (el 920 rfl en)))))) ?_
      refine tri_seq ?_
      refine tri_seq ?_
      refine tri_reg mixed hcx ?_ _ _
      refine asg rfl ?_
      refine ⟨by kernel_rfl, ?_⟩
      refine nx (sl 0 rfl (sl 2 rfl (sl 4 rfl (sl 5 rfl (sl 6 rfl (sl 7 rfl (sl 8 rfl (sl 9 rfl sn)))))))) (el 10 rfl (el 8 rfl (el 9 rfl (el 110 rfl (el 7 rfl (el 920 rfl en)))))) ?_
      refine tri_block ?_
      refine tri_loop (ι := Nat) (fun e => [(0, T.l (cL (cZi kb)) b), (2, T.p 10 0), (4, T.p 110 0), (5, T.c (.int .i64 (i : Int))), (6, T.o 7), (7, T.c (.int .i64 (j : Int))), (8, T.p 920 0), (9, T.c (.int .i64 (e : Int)))]) (fun e => [(10, some (Ent.box 105 [T.c (.slice none 0 0), T.c (.slice none 0 0)])), (8, some (Ent.row (cL (cQ K)) 95 (ML b i))), (9, some (Ent.row (cQ K) 46 (SL b i))), (110, some (Ent.box 105 [T.o 8, T.o 9])), (7, some (Ent.row (cQ K) 46 (mL b i j))), (920, some (Ent.box 46 [T.Q (Mr (gR b) e i j) K]))]) (fun e => j - e) (fun e => (e ≤ j)) 0 (Nat.zero_le _) (sl 0 rfl (sl 2 rfl (sl 4 rfl (sl 5 rfl (sl 6 rfl (sl 7 rfl (sl 8 rfl (sl 9 rfl sn)))))))) (el 10 rfl (el 8 rfl (el 9 rfl (el 110 rfl (el 7 rfl (ew 920 rfl (box_pack1 (q_qb rfl (hQi 0 j (by omega) (by omega)))) en)))))) ?_
      rintro e he
      refine tri_sub (sl 0 rfl (sl 2 rfl (sl 4 rfl (sl 5 rfl (sl 6 rfl (sl 7 rfl (sl 8 rfl (sl 9 rfl sn)))))))) (el 10 rfl (el 8 rfl (el 9 rfl (el 110 rfl (el 7 rfl (el 920 rfl en)))))) ?_
      refine tri_seq ?_
      refine tri_seq ?_
      refine tri_reg mixed hcx ?_ _ _
      refine mv rfl ?_
      refine mv rfl ?_
      refine clt rfl rfl rfl ?_
      refine ⟨by kernel_rfl, ?_⟩
      refine nx (sl 0 rfl (sl 2 rfl (sl 4 rfl (sl 5 rfl (sl 6 rfl (sl 7 rfl (sl 8 rfl (sl 9 rfl (sl 35 rfl sn))))))))) (el 10 rfl (el 8 rfl (el 9 rfl (el 110 rfl (el 7 rfl (el 920 rfl en)))))) ?_
      refine tri_if rfl (fun he2 => ?_) (fun he2 => ?_)
      · have hse : sR b e ≠ 0 := ok_ne hok (by omega)
        refine tri_skip ?_
        refine nx (sl 0 rfl (sl 2 rfl (sl 4 rfl (sl 5 rfl (sl 6 rfl (sl 7 rfl (sl 8 rfl (sl 9 rfl sn)))))))) (el 10 rfl (el 8 rfl (el 9 rfl (el 110 rfl (el 7 rfl (el 920 rfl en)))))) ?_
        refine tri_seq ?_
        refine tri_block ?_
        refine tri_reg mixed hcx ?_ _ _
        refine ld rfl rfl tyQ rfl ?_
        refine fa rfl fMu 0 ?_
        refine ld rfl rfl tyQss rfl ?_
        refine mv rfl ?_
        refine ixo rfl rfl rfl slQss ⟨rfl, by omega⟩ ?_
        refine lo _ rfl rfl tyQs ⟨rfl, rfl, by omega⟩ ?_
        refine mv rfl ?_
        refine ix rfl rfl slQs ⟨rfl, by omega⟩ ?_
        refine lf rfl tyQ ?_
        refine mv rfl ?_
        refine mv rfl ?_
        refine ixo rfl rfl rfl slQs ⟨rfl, by omega⟩ ?_
        refine lo _ rfl rfl tyQ ⟨rfl, rfl, by omega⟩ ?_
        refine ca rfl (h := r03_Mul (by omega) (by omega)) (hn := ?_)
        refine fa rfl fStar 1 ?_
        refine ld rfl rfl tyQs rfl ?_
        refine mv rfl ?_
        refine ixo rfl rfl rfl slQs ⟨rfl, by omega⟩ ?_
        refine lo _ rfl rfl tyQ ⟨rfl, rfl, by omega⟩ ?_
        refine ca rfl (h := r03_Mul (by omega) (by omega)) (hn := ?_)
        refine ca rfl (h := r03_Sub (by omega) (by omega)) (hn := ?_)
        refine st rfl rfl rfl tyQ rfl ?_
        refine ⟨by kernel_rfl, ?_⟩
        refine pn_blk ?_
        refine nx (sl 0 rfl (sl 2 rfl (sl 4 rfl (sl 5 rfl (sl 6 rfl (sl 7 rfl (sl 8 rfl (sl 9 rfl sn)))))))) (el 10 rfl (el 8 rfl (el 9 rfl (el 110 rfl (el 7 rfl (el 920 rfl en)))))) ?_
        refine tri_reg mixed hcx ?_ _ _
        refine mv rfl ?_
        refine ad (((e + 1 : Nat) : Int)) rfl rfl rfl (by omega) ?_
        refine asg rfl ?_
        refine ⟨by kernel_rfl, ?_⟩
        exact pn_back (e + 1) (by first | omega | (dsimp only; omega)) (by omega) (sl 0 rfl (sl 2 rfl (sl 4 rfl (sl 5 rfl (sl 6 rfl (sl 7 rfl (sl 8 rfl (sl 9 rfl sn)))))))) (el 10 rfl (el 8 rfl (el 9 rfl (el 110 rfl (el 7 rfl (ew 920 rfl (box_pack1 (q_qb (by rw [show (ML b i).getD j (cL (cQ K)).dflt = mL b j j from ML_at (by omega), show (mL b j j).getD e (cQ K).dflt = mR b j e from mL_at (by omega), show (mL b i j).getD e (cQ K).dflt = mR b i e from mL_at (by omega), show (SL b i).getD e (cQ K).dflt = sR b e from SL_at (by omega)]; exact mr_step b hse) (hQi (e + 1) j (by omega) (by omega)))) en))))))
      · refine tri_exit ?_
        repeat (first | refine pn_then ?_ | refine pn_oth (by decide) ?_)
        refine pn_ex ?_
        obtain rfl : j = e := by omega
        refine nx (sl 0 rfl (sl 2 rfl (sl 4 rfl (sl 5 rfl (sl 6 rfl (sl 7 rfl (sl 8 rfl sn))))))) (el 10 rfl (el 8 rfl (el 9 rfl (el 110 rfl (el 7 rfl (el 920 rfl en)))))) ?_
        refine tri_reg mixed hcx ?_ _ _
        refine mv rfl ?_
        refine ld rfl rfl tyQ rfl ?_
        refine fa rfl fStar 1 ?_
        refine ld rfl rfl tyQs rfl ?_
        refine mv rfl ?_
        refine ixo rfl rfl rfl slQs ⟨rfl, by omega⟩ ?_
        refine lo _ rfl rfl tyQ ⟨rfl, rfl, by omega⟩ ?_
        refine ca rfl (h := r03_Div (by rw [show (SL b i).getD j (cQ K).dflt = sR b j from SL_at (by omega)]; exact hsj) (by omega) (by omega)) (hn := ?_)
        refine bs (c := cQ K) (xs := [mR b i j]) slQs rfl ⟨q_qb (by rw [show (SL b i).getD j (cQ K).dflt = sR b j from SL_at (by omega)]; rfl) (hM i j (by omega) (by omega) hok), trivial⟩ ?_
        refine ap 1419 rfl rfl rfl slQs (by simp only [List.length_cons, List.length_nil]; omega) (by decide) ?_
        refine asg rfl ?_
        refine ⟨by kernel_rfl, ?_⟩
        refine pn_blk ?_
        refine nx (sl 0 rfl (sl 2 rfl (sl 4 rfl (sl 5 rfl (sl 6 rfl (sl 7 rfl sn)))))) (el 10 rfl (el 8 rfl (el 9 rfl (el 110 rfl (el 920 rfl (el 1419 rfl en)))))) ?_
        refine tri_reg mixed hcx ?_ _ _
        refine mv rfl ?_
        refine ad (((j + 1 : Nat) : Int)) rfl rfl rfl (by omega) ?_
        refine asg rfl ?_
        refine ⟨by kernel_rfl, ?_⟩
        refine pn_sub (sl 0 rfl (sl 2 rfl (sl 4 rfl (sl 5 rfl (sl 6 rfl (sl 7 rfl sn)))))) (el 10 rfl (el 8 rfl (el 9 rfl (el 110 rfl (el 920 rfl (el 1419 rfl en)))))) ?_
        refine pn_ren 6 7 1419 rfl rfl (by rw [hcx]; kernel_rfl) ?_
        exact pn_back (j + 1) (by first | omega | (dsimp only; omega)) (by omega) (sl 0 rfl (sl 2 rfl (sl 4 rfl (sl 5 rfl (sl 6 rfl (sl 7 rfl sn)))))) (el 10 rfl (el 8 rfl (el 9 rfl (el 110 rfl (ew 7 rfl (.of (by rw [mL_succ])) en)))))
    · refine tri_exit ?_
      repeat (first | refine pn_then ?_ | refine pn_oth (by decide) ?_)
      refine pn_ex ?_
      obtain rfl : i = j := by omega
      refine nx (sl 0 rfl (sl 2 rfl (sl 4 rfl (sl 5 rfl (sl 6 rfl sn))))) (el 10 rfl (el 8 rfl (el 9 rfl (el 110 rfl (el 7 rfl en))))) ?_
      refine tri_seq ?_
      refine tri_reg mixed hcx ?_ _ _
      refine mv rfl ?_
      refine mv rfl ?_
      refine ix rfl rfl slZss ⟨rfl, by omega⟩ ?_
      refine lf rfl tyZs ?_
      refine mv rfl ?_
      refine mv rfl ?_
      refine ix rfl rfl slZss ⟨rfl, by omega⟩ ?_
      refine lf rfl tyZs ?_
      refine ca rfl (h := r05_Dot (by omega) (by omega) (by omega) (by omega) (by omega)) (hn := ?_)
      refine ca rfl (h := r03_Of (by omega)) (hn := ?_)
      refine nw 1520 zeQ ?_
      refine st rfl rfl rfl tyQ rfl ?_
      refine ⟨by kernel_rfl, ?_⟩
      refine nx (sl 0 rfl (sl 2 rfl (sl 4 rfl (sl 5 rfl (sl 6 rfl (sl 10 rfl sn)))))) (el 10 rfl (el 8 rfl (el 9 rfl (el 110 rfl (el 7 rfl (el 1520 rfl en)))))) ?_
      refine tri_seq ?_
      refine tri_seq ?_
      refine tri_reg mixed hcx ?_ _ _
      refine asg rfl ?_
      refine ⟨by kernel_rfl, ?_⟩
      refine nx (sl 0 rfl (sl 2 rfl (sl 4 rfl (sl 5 rfl (sl 6 rfl (sl 10 rfl (sl 11 rfl sn))))))) (el 10 rfl (el 8 rfl (el 9 rfl (el 110 rfl (el 7 rfl (el 1520 rfl en)))))) ?_
      refine tri_block ?_
      refine tri_loop (ι := Nat) (fun e => [(0, T.l (cL (cZi kb)) b), (2, T.p 10 0), (4, T.p 110 0), (5, T.c (.int .i64 (i : Int))), (6, T.o 7), (10, T.p 1520 0), (11, T.c (.int .i64 (e : Int)))]) (fun e => [(10, some (Ent.box 105 [T.c (.slice none 0 0), T.c (.slice none 0 0)])), (8, some (Ent.row (cL (cQ K)) 95 (ML b i))), (9, some (Ent.row (cQ K) 46 (SL b i))), (110, some (Ent.box 105 [T.o 8, T.o 9])), (7, some (Ent.row (cQ K) 46 (mL b i i))), (1520, some (Ent.box 46 [T.Q (Mr (gR b) e i i) K]))]) (fun e => i - e) (fun e => (e ≤ i)) 0 (Nat.zero_le _) (sl 0 rfl (sl 2 rfl (sl 4 rfl (sl 5 rfl (sl 6 rfl (sl 10 rfl (sl 11 rfl sn))))))) (el 10 rfl (el 8 rfl (el 9 rfl (el 110 rfl (el 7 rfl (ew 1520 rfl (box_pack1 (q_qb rfl (hQi 0 i (by omega) (by omega)))) en)))))) ?_
      rintro e he
      refine tri_sub (sl 0 rfl (sl 2 rfl (sl 4 rfl (sl 5 rfl (sl 6 rfl (sl 10 rfl (sl 11 rfl sn))))))) (el 10 rfl (el 8 rfl (el 9 rfl (el 110 rfl (el 7 rfl (el 1520 rfl en)))))) ?_
      have hml : (mL b i i).length = i := mL_len
      refine tri_seq ?_
      refine tri_seq ?_
      refine tri_reg mixed hcx ?_ _ _
      refine mv rfl ?_
      refine mv rfl ?_
      refine clt rfl rfl rfl ?_
      refine ⟨by kernel_rfl, ?_⟩
      refine nx (sl 0 rfl (sl 2 rfl (sl 4 rfl (sl 5 rfl (sl 6 rfl (sl 10 rfl (sl 11 rfl (sl 81 rfl sn)))))))) (el 10 rfl (el 8 rfl (el 9 rfl (el 110 rfl (el 7 rfl (el 1520 rfl en)))))) ?_
      refine tri_if rfl (fun he3 => ?_) (fun he3 => ?_)
      · have hse : sR b e ≠ 0 := ok_ne hok (by omega)
        refine tri_skip ?_
        refine nx (sl 0 rfl (sl 2 rfl (sl 4 rfl (sl 5 rfl (sl 6 rfl (sl 10 rfl (sl 11 rfl sn))))))) (el 10 rfl (el 8 rfl (el 9 rfl (el 110 rfl (el 7 rfl (el 1520 rfl en)))))) ?_
        refine tri_seq ?_
        refine tri_block ?_
        refine tri_reg mixed hcx ?_ _ _
        refine ld rfl rfl tyQ rfl ?_
        refine mv rfl ?_
        refine mv rfl ?_
        refine ixo rfl rfl rfl slQs ⟨rfl, by omega⟩ ?_
        refine lo _ rfl rfl tyQ ⟨rfl, rfl, by omega⟩ ?_
        refine ca rfl (h := r05_square (by omega)) (hn := ?_)
        refine fa rfl fStar 1 ?_
        refine ld rfl rfl tyQs rfl ?_
        refine mv rfl ?_
        refine ixo rfl rfl rfl slQs ⟨rfl, by omega⟩ ?_
        refine lo _ rfl rfl tyQ ⟨rfl, rfl, by omega⟩ ?_
        refine ca rfl (h := r03_Mul (by omega) (by omega)) (hn := ?_)
        refine ca rfl (h := r03_Sub (by omega) (by omega)) (hn := ?_)
        refine st rfl rfl rfl tyQ rfl ?_
        refine ⟨by kernel_rfl, ?_⟩
        refine pn_blk ?_
        refine nx (sl 0 rfl (sl 2 rfl (sl 4 rfl (sl 5 rfl (sl 6 rfl (sl 10 rfl (sl 11 rfl sn))))))) (el 10 rfl (el 8 rfl (el 9 rfl (el 110 rfl (el 7 rfl (el 1520 rfl en)))))) ?_
        refine tri_reg mixed hcx ?_ _ _
        refine mv rfl ?_
        refine ad (((e + 1 : Nat) : Int)) rfl rfl rfl (by omega) ?_
        refine asg rfl ?_
        refine ⟨by kernel_rfl, ?_⟩
        exact pn_back (e + 1) (by first | omega | (dsimp only; omega)) (by omega) (sl 0 rfl (sl 2 rfl (sl 4 rfl (sl 5 rfl (sl 6 rfl (sl 10 rfl (sl 11 rfl sn))))))) (el 10 rfl (el 8 rfl (el 9 rfl (el 110 rfl (el 7 rfl (ew 1520 rfl (box_pack1 (q_qb (by rw [show (mL b i i).getD e (cQ K).dflt = mR b i e from mL_at (by omega), show (SL b i).getD e (cQ K).dflt = sR b e from SL_at (by omega)]; exact mr_step2 b hse) (hQi (e + 1) i (by omega) (by omega)))) en))))))
      · refine tri_exit ?_
        repeat (first | refine pn_then ?_ | refine pn_oth (by decide) ?_)
        refine pn_ex ?_
        obtain rfl : i = e := by omega
        refine nx (sl 0 rfl (sl 2 rfl (sl 4 rfl (sl 5 rfl (sl 6 rfl (sl 10 rfl sn)))))) (el 10 rfl (el 8 rfl (el 9 rfl (el 110 rfl (el 7 rfl (el 1520 rfl en)))))) ?_
        refine tri_seq ?_
        refine tri_seq ?_
        by_cases hps : 0 < sR b i
        · have hnx : Ok b (i + 1) := fun k hk => by rcases Nat.lt_or_eq_of_le (Nat.le_of_lt_succ hk) with h8 | h8; exact hok k h8; rw [h8]; exact hps
          have hsg : sg (Mr (gR b) i i i).num = 1 := sg_pos (q_pos.1 hps)
          refine tri_sub (sl 0 rfl (sl 2 rfl (sl 4 rfl (sl 5 rfl (sl 6 rfl (sl 10 rfl sn)))))) (el 10 rfl (el 8 rfl (el 9 rfl (el 110 rfl (el 7 rfl (ew 1520 rfl box_open en)))))) ?_
          refine tri_reg mixed hcx ?_ _ _
          refine fa rfl fNum 0 ?_
          refine ld rfl rfl tyZ rfl ?_
          refine ca rfl (h := r02_Sign (by omega)) (hn := ?_)
          refine cle rfl rfl (decide_eq_false (by omega)) ?_
          refine ⟨by kernel_rfl, ?_⟩
          refine nx (sl 0 rfl (sl 2 rfl (sl 4 rfl (sl 5 rfl (sl 6 rfl (sl 10 rfl (sl 100 rfl sn))))))) (el 10 rfl (el 8 rfl (el 9 rfl (el 110 rfl (el 7 rfl (el 1520 rfl en)))))) ?_
          refine tri_false rfl rfl ?_
          refine tri_skip ?_
          refine nx (sl 0 rfl (sl 2 rfl (sl 4 rfl (sl 5 rfl (sl 6 rfl (sl 10 rfl sn)))))) (el 10 rfl (el 8 rfl (el 9 rfl (el 110 rfl (el 7 rfl (el 1520 rfl en)))))) ?_
          refine tri_seq ?_
          refine tri_fz 7 rfl ?_
          refine tri_rd 6 7 rfl rfl ?_
          refine tri_reg mixed hcx ?_ _ _
          refine fa rfl fMu 0 ?_
          refine ld rfl rfl tyQss rfl ?_
          refine mv rfl ?_
          refine bs (c := cL (cQ K)) (xs := [mL b i i]) slQss rfl ⟨.refl _, trivial⟩ ?_
          refine ap 2214 rfl rfl rfl slQss (by simp only [List.length_cons, List.length_nil]; omega) (by decide) ?_
          refine fa rfl fMu 0 ?_
          refine st rfl rfl rfl tyQss rfl ?_
          refine ⟨by kernel_rfl, ?_⟩
          refine nx (sl 0 rfl (sl 2 rfl (sl 4 rfl (sl 5 rfl (sl 10 rfl sn))))) (el 10 rfl (el 9 rfl (el 110 rfl (el 1520 rfl (el 2214 rfl en))))) ?_
          refine tri_reg mixed hcx ?_ _ _
          refine fa rfl fStar 1 ?_
          refine ld rfl rfl tyQs rfl ?_
          refine ld rfl rfl tyQ rfl ?_
          refine bs (c := cQ K) (xs := [sR b i]) slQs rfl ⟨.refl _, trivial⟩ ?_
          refine ap 2314 rfl rfl rfl slQs (by simp only [List.length_cons, List.length_nil]; omega) (by decide) ?_
          refine fa rfl fStar 1 ?_
          refine st rfl rfl rfl tyQs rfl ?_
          refine ⟨by kernel_rfl, ?_⟩
          refine pn_blk ?_
          refine nx (sl 0 rfl (sl 2 rfl (sl 4 rfl (sl 5 rfl sn)))) (el 10 rfl (el 110 rfl (el 1520 rfl (el 2214 rfl (el 2314 rfl en))))) ?_
          refine tri_reg mixed hcx ?_ _ _
          refine mv rfl ?_
          refine ad (((i + 1 : Nat) : Int)) rfl rfl rfl (by omega) ?_
          refine asg rfl ?_
          refine ⟨by kernel_rfl, ?_⟩
          refine pn_sub (sl 0 rfl (sl 2 rfl (sl 4 rfl (sl 5 rfl sn)))) (el 10 rfl (el 110 rfl (el 2214 rfl (el 2314 rfl en)))) ?_
          refine pn_renb (bl := [T.o 2214, T.o 2314]) (bl' := [T.o 8, T.o 2314]) 110 8 2214 rfl rfl ⟨.inr ⟨rfl, rfl⟩, .inl ⟨rfl, by show 8 ∉ [2314]; decide⟩, trivial⟩ (by rw [hcx]; kernel_rfl) rfl ?_
          refine pn_renb (bl := [T.o 8, T.o 2314]) (bl' := [T.o 8, T.o 9]) 110 9 2314 rfl rfl ⟨.inl ⟨rfl, by show 9 ∉ [8]; decide⟩, .inr ⟨rfl, rfl⟩, trivial⟩ (by rw [hcx]; kernel_rfl) rfl ?_
          exact pn_back (i + 1) (by first | omega | (dsimp only; omega)) ⟨by omega, hnx⟩ (sl 0 rfl (sl 2 rfl (sl 4 rfl (sl 5 rfl sn)))) (el 10 rfl (ew 8 rfl (.of (by rw [ML_succ])) (ew 9 rfl (.of (by rw [SL_succ])) (el 110 rfl en))))
        · have hsg : sg (Mr (gR b) i i i).num ≤ 0 := sg_le.2 (Int.not_lt.1 (mt q_pos.2 hps))
          refine tri_sub (sl 0 rfl (sl 2 rfl (sl 4 rfl (sl 5 rfl (sl 6 rfl (sl 10 rfl sn)))))) (el 10 rfl (el 8 rfl (el 9 rfl (el 110 rfl (el 7 rfl (ew 1520 rfl box_open en)))))) ?_
          refine tri_reg mixed hcx ?_ _ _
          refine fa rfl fNum 0 ?_
          refine ld rfl rfl tyZ rfl ?_
          refine ca rfl (h := r02_Sign (by omega)) (hn := ?_)
          refine cle rfl rfl (decide_eq_true (by omega)) ?_
          refine ⟨by kernel_rfl, ?_⟩
          refine nx (sl 0 rfl (sl 2 rfl (sl 4 rfl (sl 5 rfl (sl 6 rfl (sl 10 rfl (sl 100 rfl sn))))))) (el 10 rfl (el 8 rfl (el 9 rfl (el 110 rfl (el 7 rfl (el 1520 rfl en)))))) ?_
          refine tri_true rfl rfl ?_
          refine tri_seq ?_
          refine tri_fz 8 rfl ?_
          refine tri_rdb (bl := [T.o 8, T.o 9]) (bl' := [T.l (cL (cQ K)) (ML b i), T.o 9]) 110 8 rfl rfl ⟨.inr ⟨rfl, rfl⟩, .inl rfl, trivial⟩ ?_
          refine tri_fz 9 rfl ?_
          refine tri_rdb (bl := [T.l (cL (cQ K)) (ML b i), T.o 9]) (bl' := [T.l (cL (cQ K)) (ML b i), T.l (cQ K) (SL b i)]) 110 9 rfl rfl ⟨.inl rfl, .inr ⟨rfl, rfl⟩, trivial⟩ ?_
          refine tri_reg mixed hcx ?_ _ _
          refine ld rfl rfl tyR rfl ?_
          refine st rfl rfl rfl tyR rfl ?_
          refine asg rfl ?_
          refine ⟨by kernel_rfl, ?_⟩
          refine nx (sl 2 rfl (sl 3 rfl sn)) (el 10 rfl (el 110 rfl (el 7 rfl (el 1520 rfl en)))) ?_
          refine tri_ret ?_
          repeat (first | refine pn_thenr ?_ | refine pn_blkr ?_)
          exact ret2 hcx rfl (rv_cell (c' := cx) (n := 0) rfl rfl tyR rfl) (rv_tmp rfl) (tup_le ⟨st_le (l := [T.l (cL (cQ K)) (ML b i), T.l (cQ K) (SL b i)]) (l' := [T.any, T.any]) ⟨any_l, any_l, trivial⟩, .refl _, trivial⟩) en
  · refine tri_exit ?_
    repeat (first | refine pn_then ?_ | refine pn_oth (by decide) ?_)
    refine pn_ex ?_
    exfalso
    exact hno ((show i = b.length by omega) ▸ hok)
end Go.Proofs.Ytbihfnjmdpbkgaa.V
