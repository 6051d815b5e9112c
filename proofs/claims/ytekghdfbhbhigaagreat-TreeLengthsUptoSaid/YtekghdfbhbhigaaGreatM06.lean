/- Whole numbers by how near they are to a fraction: the nearest, the k-th, the one behind another one. -/
import Derived.RangeFuncRecord
import Derived.Test.YtekghdfbhbhigaaGreatM05
set_option linter.unusedVariables false
set_option maxRecDepth 100000
namespace Go.Proofs.YtekghdfbhbhigaaGreat.V
open Go.RowKit Mt Nml
theorem rle_div {z a b : Int} (hb : 0 < b) : (z : Rat) ≤ (a : Rat) / (b : Rat) ↔ z * b ≤ a := by
  have hbr : (0 : Rat) < (b : Rat) := Rat.intCast_pos.2 hb
  rw [← Rat.not_lt, Rat.div_lt_iff hbr, ← Rat.intCast_mul, Rat.intCast_lt_intCast, Int.not_lt]
/-- A fraction rounded down. -/
def flo (q : Rat) : Int := Int.fdiv q.num (q.den : Int)
theorem flo_iff {q : Rat} {z : Int} : flo q = z ↔ (z : Rat) ≤ q ∧ q < (z : Rat) + 1 := by
  have hd : 0 < ((q.den : Int)) := den_p' q
  have hdr : (0 : Rat) < ((q.den : Int) : Rat) := Rat.intCast_pos.2 hd
  have e := rat_nd q
  have h1 : (z : Rat) ≤ q ↔ z * (q.den : Int) ≤ q.num := by
    conv => lhs; rw [← e]
    exact rle_div hd
  have h2 : q < (z : Rat) + 1 ↔ q.num < (z + 1) * (q.den : Int) := by
    conv => lhs; rw [← e]
    rw [Rat.div_lt_iff hdr, show ((z : Rat) + 1) = ((z + 1 : Int) : Rat) from by rw [Rat.intCast_add]; rfl, ← Rat.intCast_mul, Rat.intCast_lt_intCast]
  rw [h1, h2]
  unfold flo
  rw [Int.fdiv_eq_ediv_of_nonneg _ (by omega)]
  constructor
  · rintro rfl
    exact ⟨Int.ediv_mul_le _ (by omega), Int.lt_ediv_add_one_mul_self _ hd⟩
  · rintro ⟨k1, k2⟩
    have h3 := Int.le_ediv_of_mul_le hd k1
    have h4 := Int.ediv_lt_of_lt_mul hd k2
    omega
theorem flo_frac {a b : Int} (hb : 0 < b) : flo ((a : Rat) / (b : Rat)) = Int.fdiv a b := by
  have hbr : (0 : Rat) < (b : Rat) := Rat.intCast_pos.2 hb
  rw [flo_iff, Int.fdiv_eq_ediv_of_nonneg _ (by omega)]
  refine ⟨?_, ?_⟩
  · rw [rle_div hb]
    exact Int.ediv_mul_le _ (by omega)
  · rw [Rat.div_lt_iff hbr, show (((a / b : Int) : Rat) + 1) = ((a / b + 1 : Int) : Rat) from by rw [Rat.intCast_add]; rfl, ← Rat.intCast_mul, Rat.intCast_lt_intCast]
    exact Int.lt_ediv_add_one_mul_self _ hb
/-- The nearest one, of two the greater one. -/
def nea (c : Rat) : Int := flo (c + 1 / 2)
/-- The size of a fraction. -/
def ab (q : Rat) : Rat := if q < 0 then -q else q
/-- The k-th number about c. -/
def nth (c : Rat) (k : Nat) : Int := if (k % 2 = 1) = (((nea c : Int) : Rat) ≤ c) then nea c + ((k + 1) / 2 : Nat) else nea c - ((k + 1) / 2 : Nat)
/-- The number behind x. -/
def bhd (c : Rat) (x : Int) : Int := if c < (x : Rat) then flo (2 * c - (x : Rat)) else flo (2 * c - (x : Rat)) + 1
theorem nea_eq (c : Rat) : nea c = (2 * c.num + (c.den : Int)) / (2 * (c.den : Int)) := by
  have hM := den_p' c
  have e : c + 1 / 2 = ((2 * c.num + (c.den : Int) : Int) : Rat) / ((2 * (c.den : Int) : Int) : Rat) := by
    have h1 := rat_nd c
    have hne : (((c.den : Int)) : Rat) ≠ 0 := rat_ne (by omega)
    rw [Rat.intCast_add, Rat.intCast_mul, Rat.intCast_mul]
    show _ = ((2 : Rat) * _ + _) / ((2 : Rat) * _)
    conv => lhs; rw [← h1]
    generalize ((c.num : Int) : Rat) = a
    generalize (((c.den : Int)) : Rat) = d at *
    grind
  unfold nea
  rw [e, flo_frac (by omega), Int.fdiv_eq_ediv_of_nonneg _ (by omega)]
theorem mir_eq (c : Rat) (x : Int) : flo (2 * c - (x : Rat)) = (2 * c.num - (c.den : Int) * x) / (c.den : Int) := by
  have hM := den_p' c
  have e : 2 * c - (x : Rat) = ((2 * c.num - (c.den : Int) * x : Int) : Rat) / (((c.den : Int)) : Rat) := by
    have h1 := rat_nd c
    have hne : (((c.den : Int)) : Rat) ≠ 0 := rat_ne (by omega)
    rw [Rat.intCast_sub, Rat.intCast_mul, Rat.intCast_mul]
    show _ = ((2 : Rat) * _ - _) / _
    conv => lhs; rw [← h1]
    generalize ((c.num : Int) : Rat) = a
    generalize (((c.den : Int)) : Rat) = d at *
    grind
  rw [e, flo_frac hM, Int.fdiv_eq_ediv_of_nonneg _ (by omega)]
theorem int_le_c (c : Rat) (x : Int) : (x : Rat) ≤ c ↔ (c.den : Int) * x ≤ c.num := by
  have hdr : (0 : Rat) < ((c.den : Int) : Rat) := Rat.intCast_pos.2 (den_p' c)
  conv => lhs; rw [← rat_nd c]
  rw [rle_div (den_p' c), Int.mul_comm]
theorem c_lt_int (c : Rat) (x : Int) : c < (x : Rat) ↔ c.num < (c.den : Int) * x := by
  have := int_le_c c x
  rw [← Rat.not_le, this]; omega
end Go.Proofs.YtekghdfbhbhigaaGreat.V
/- Search trees: centres, parts, the numbers about a centre. -/
set_option linter.unusedVariables false
set_option linter.unusedSimpArgs false
set_option maxRecDepth 100000
namespace Go.Proofs.YtekghdfbhbhigaaGreat.V
open Go.RowKit Mt Nml
theorem tyTr : Ty Tryz.prog 39 true 7 := ⟨by kernel_rfl, by kernel_rfl⟩
theorem fTrG : FieldT Tryz.prog 39 0 0 true 2 := FieldT.mk' tyG
theorem fTrT : FieldT Tryz.prog 39 1 2 false 1 := FieldT.mk' tyQs
theorem fTrR : FieldT Tryz.prog 39 2 3 true 4 := FieldT.mk' tyQ
/-- A search tree however told. -/
abbrev T.Tr (D : List Int) (L : List (List Int)) (ts : List (Int × Int)) (a b : Int) (k : Nat) : T := T.st [T.l (cZi k) D, T.l (cL (cZi k)) L, T.l (cQi k) ts, T.Zi a k, T.Zi b k]
theorem nea_frac {a b : Int} (hb : 0 < b) : nea ((a : Rat) / (b : Rat)) = Int.fdiv (a + a + b) (b + b) := by
  have e : (a : Rat) / (b : Rat) + 1 / 2 = ((a + a + b : Int) : Rat) / ((b + b : Int) : Rat) := by
    have hne := rat_ne (show b ≠ 0 by omega)
    rw [Rat.intCast_add, Rat.intCast_add, Rat.intCast_add]
    generalize (a : Rat) = x
    generalize (b : Rat) = y at *
    grind
  unfold nea
  rw [e, flo_frac (by omega)]

theorem zi_Near {a b : Int} {k l : Nat} (hb : 0 < b) (hk : k ≤ 274877906944) (hl : l ≤ 274877906944) : Fn Tryz.prog 188 [T.Zi a k, T.Zi b l] [] [] [] (T.tup [T.Z (Int.fdiv (a + a + b) (b + b)) (k + k + 1 + l + 1 + 3), T.c (.int .i64 0)]) := by
  refine fn_of Tryz.func188 rfl (by show 2 ≤ 24; decide) fun cx hcx => ?_
  refine tri_sub (sl 0 rfl (sl 1 rfl sn)) en ?_
  refine tri_seq ?_
  refine tri_reg mixed hcx ?_ _ _
  refine bx 10 rfl ?_
  refine bx 11 rfl ?_
  refine nw 12 zeZ ?_
  refine asg rfl ?_
  refine ⟨by kernel_rfl, ?_⟩
  refine nx (sl 2 rfl (sl 3 rfl (sl 4 rfl sn))) (el 10 rfl (el 11 rfl (el 12 rfl en))) ?_
  refine tri_seq ?_
  refine tri_reg mixed hcx ?_ _ _
  refine ld rfl rfl tyZ rfl ?_
  refine ld rfl rfl tyZ rfl ?_
  refine ca rfl (h := zi_Add (by omega) (by omega)) (hn := ?_)
  refine ld rfl rfl tyZ rfl ?_
  refine ca rfl (h := zi_Add (by omega) (by omega)) (hn := ?_)
  refine ld rfl rfl tyZ rfl ?_
  refine ld rfl rfl tyZ rfl ?_
  refine ca rfl (h := zi_Add (by omega) (by omega)) (hn := ?_)
  refine ca rfl (h := zi_Floor (by omega) (by omega) (by omega)) (hn := ?_)
  refine mv rfl ?_
  refine ex rfl rfl ?_
  refine ex rfl rfl ?_
  refine ex rfl rfl ?_
  refine nw 123 zeZ ?_
  refine nw 124 zeZ ?_
  refine st rfl rfl rfl tyZ rfl ?_
  refine st rfl rfl rfl tyZ rfl ?_
  refine asg rfl ?_
  refine ⟨by kernel_rfl, ?_⟩
  refine nx (sl 4 rfl (sl 6 rfl (sl 8 rfl sn))) (el 10 rfl (el 11 rfl (el 12 rfl (el 123 rfl (el 124 rfl en))))) ?_
  refine tri_seq ?_
  refine tri_reg mixed hcx ?_ _ _
  refine ld rfl rfl tyZ rfl ?_
  refine mv rfl ?_
  refine st rfl rfl rfl tyZ rfl ?_
  refine asg rfl ?_
  refine ⟨by kernel_rfl, ?_⟩
  refine nx (sl 4 rfl (sl 5 rfl sn)) (el 10 rfl (el 11 rfl (el 12 rfl (el 123 rfl (el 124 rfl en))))) ?_
  refine tri_ret ?_
  repeat (first | refine pn_thenr ?_ | refine pn_blkr ?_)
  exact ret2 hcx rfl (rv_cell (c' := cx) (n := 0) rfl rfl tyZ rfl) (rv_tmp rfl) (.refl _) en

theorem rat_NearG {a b : Int} {k : Nat} (hb : 0 < b) (hk : k ≤ 17179869184) : Fn Tryz.prog 165 [T.Qi a b k] [] [] [] (T.tup [T.Z (Int.fdiv (a + a + b) (b + b)) (k + k + 1 + k + 1 + 3), T.c (.int .i64 0)]) := by
  refine fn_of Tryz.func165 rfl (by show 1 ≤ 23; decide) fun cx hcx => ?_
  refine tri_sub (sl 0 rfl sn) en ?_
  refine tri_seq ?_
  refine tri_reg mixed hcx ?_ _ _
  refine bxs 10 rfl ?_
  refine nw 11 zeZ ?_
  refine asg rfl ?_
  refine ⟨by kernel_rfl, ?_⟩
  refine nx (sl 1 rfl (sl 2 rfl sn)) (el 10 rfl (el 11 rfl en)) ?_
  refine tri_seq ?_
  refine tri_seq ?_
  refine tri_reg mixed hcx ?_ _ _
  refine ld rfl rfl tyQ rfl ?_
  refine bs (c := cQi k) (xs := [(a, b)]) slQs rfl ⟨.refl _, trivial⟩ ?_
  refine ca rfl (h := rat_validG (by omega) (by simp) (fun i hi => by match i, hi with | 0, _ => exact hb)) (hn := ?_)
  refine asg rfl ?_
  refine ⟨by kernel_rfl, ?_⟩
  refine nx (sl 1 rfl (sl 2 rfl (sl 4 rfl sn))) (el 10 rfl (el 11 rfl en)) ?_
  refine tri_seq ?_
  refine tri_reg mixed hcx ?_ _ _
  refine mv rfl ?_
  refine cne rfl rfl (decide_eq_false (by omega)) ?_
  refine ⟨by kernel_rfl, ?_⟩
  refine nx (sl 1 rfl (sl 2 rfl (sl 4 rfl (sl 11 rfl sn)))) (el 10 rfl (el 11 rfl en)) ?_
  refine tri_false rfl rfl ?_
  refine tri_skip ?_
  refine nx (sl 1 rfl (sl 2 rfl sn)) (el 10 rfl (el 11 rfl en)) ?_
  refine tri_seq ?_
  refine tri_reg mixed hcx ?_ _ _
  refine fa rfl fNum 0 ?_
  refine ld rfl rfl tyZ rfl ?_
  refine fa rfl fDen 2 ?_
  refine ld rfl rfl tyZ rfl ?_
  refine ca rfl (h := zi_Near hb (by omega) (by omega)) (hn := ?_)
  refine mv rfl ?_
  refine ex rfl rfl ?_
  refine ex rfl rfl ?_
  refine nw 418 zeZ ?_
  refine st rfl rfl rfl tyZ rfl ?_
  refine asg rfl ?_
  refine ⟨by kernel_rfl, ?_⟩
  refine nx (sl 2 rfl (sl 5 rfl sn)) (el 10 rfl (el 11 rfl (el 418 rfl en))) ?_
  refine tri_seq ?_
  refine tri_reg mixed hcx ?_ _ _
  refine ld rfl rfl tyZ rfl ?_
  refine st rfl rfl rfl tyZ rfl ?_
  refine asg rfl ?_
  refine ⟨by kernel_rfl, ?_⟩
  refine nx (sl 2 rfl (sl 3 rfl sn)) (el 10 rfl (el 11 rfl (el 418 rfl en))) ?_
  refine tri_ret ?_
  repeat (first | refine pn_thenr ?_ | refine pn_blkr ?_)
  exact ret2 hcx rfl (rv_cell (c' := cx) (n := 0) rfl rfl tyZ rfl) (rv_tmp rfl) (.refl _) en

theorem rat_FloorG {a b : Int} {k : Nat} (hb : 0 < b) (hk : k ≤ 17179869184) : Fn Tryz.prog 144 [T.Qi a b k] [] [] [] (T.tup [T.Z (Int.fdiv a b) (k + 3), T.c (.int .i64 0)]) := by
  refine fn_of Tryz.func144 rfl (by show 1 ≤ 25; decide) fun cx hcx => ?_
  refine tri_sub (sl 0 rfl sn) en ?_
  refine tri_seq ?_
  refine tri_reg mixed hcx ?_ _ _
  refine bxs 10 rfl ?_
  refine nw 11 zeZ ?_
  refine asg rfl ?_
  refine ⟨by kernel_rfl, ?_⟩
  refine nx (sl 1 rfl (sl 2 rfl sn)) (el 10 rfl (el 11 rfl en)) ?_
  refine tri_seq ?_
  refine tri_seq ?_
  refine tri_reg mixed hcx ?_ _ _
  refine ld rfl rfl tyQ rfl ?_
  refine bs (c := cQi k) (xs := [(a, b)]) slQs rfl ⟨.refl _, trivial⟩ ?_
  refine ca rfl (h := rat_validG (by omega) (by simp) (fun i hi => by match i, hi with | 0, _ => exact hb)) (hn := ?_)
  refine asg rfl ?_
  refine ⟨by kernel_rfl, ?_⟩
  refine nx (sl 1 rfl (sl 2 rfl (sl 4 rfl sn))) (el 10 rfl (el 11 rfl en)) ?_
  refine tri_seq ?_
  refine tri_reg mixed hcx ?_ _ _
  refine mv rfl ?_
  refine cne rfl rfl (decide_eq_false (by omega)) ?_
  refine ⟨by kernel_rfl, ?_⟩
  refine nx (sl 1 rfl (sl 2 rfl (sl 4 rfl (sl 12 rfl sn)))) (el 10 rfl (el 11 rfl en)) ?_
  refine tri_false rfl rfl ?_
  refine tri_skip ?_
  refine nx (sl 1 rfl (sl 2 rfl sn)) (el 10 rfl (el 11 rfl en)) ?_
  refine tri_seq ?_
  refine tri_reg mixed hcx ?_ _ _
  refine fa rfl fNum 0 ?_
  refine ld rfl rfl tyZ rfl ?_
  refine fa rfl fDen 2 ?_
  refine ld rfl rfl tyZ rfl ?_
  refine ca rfl (h := zi_Floor (by omega) (by omega) (by omega)) (hn := ?_)
  refine mv rfl ?_
  refine ex rfl rfl ?_
  refine ex rfl rfl ?_
  refine ex rfl rfl ?_
  refine nw 419 zeZ ?_
  refine nw 420 zeZ ?_
  refine st rfl rfl rfl tyZ rfl ?_
  refine st rfl rfl rfl tyZ rfl ?_
  refine asg rfl ?_
  refine ⟨by kernel_rfl, ?_⟩
  refine nx (sl 2 rfl (sl 5 rfl sn)) (el 10 rfl (el 11 rfl (el 419 rfl (el 420 rfl en)))) ?_
  refine tri_seq ?_
  refine tri_reg mixed hcx ?_ _ _
  refine ld rfl rfl tyZ rfl ?_
  refine st rfl rfl rfl tyZ rfl ?_
  refine asg rfl ?_
  refine ⟨by kernel_rfl, ?_⟩
  refine nx (sl 2 rfl (sl 3 rfl sn)) (el 10 rfl (el 11 rfl (el 419 rfl (el 420 rfl en)))) ?_
  refine tri_ret ?_
  repeat (first | refine pn_thenr ?_ | refine pn_blkr ?_)
  exact ret2 hcx rfl (rv_cell (c' := cx) (n := 0) rfl rfl tyZ rfl) (rv_tmp rfl) (.refl _) en

theorem nea_zl {a b : Int} {k : Nat} (hb : 0 < b) (h1 : zl a ≤ k) (h2 : zl b ≤ k) : zl (Int.fdiv (a + a + b) (b + b)) ≤ k + 2 := zl_fdiv (by omega) (zl_add_max (zl_add_max h1 h1) (Nat.le_trans h2 (by omega)))

theorem rv_Near {x : Rat} {k : Nat} (hk : k ≤ 17179869184) : Fn Tryz.prog 165 [T.V x k] [] [] [] (T.tup [T.Z (nea x) (k + 2), T.c (.int .i64 0)]) := fn_v [] (Bs := []) fun p p1 p2 p3 p4 => fn_out (rat_NearG p1 hk) (tup_le ⟨by rw [← p2, nea_frac p1]; exact z_as (nea_zl p1 p3 p4), .refl _, trivial⟩)

theorem rv_Floor {x : Rat} {k : Nat} (hk : k ≤ 17179869184) : Fn Tryz.prog 144 [T.V x k] [] [] [] (T.tup [T.Z (flo x) k, T.c (.int .i64 0)]) := fn_v [] (Bs := []) fun p p1 p2 p3 p4 => fn_out (rat_FloorG p1 hk) (tup_le ⟨by rw [← p2, flo_frac p1]; exact z_as (zl_fdiv p1 p3), .refl _, trivial⟩)

theorem cq_pos {x y : Rat} (h : y < x) : cq x y = 1 := by
  unfold cq
  rw [if_neg (Rat.not_lt.2 (Rat.le_of_lt h)), if_pos h]
theorem cq_npos {x y : Rat} (h : ¬ y < x) : cq x y ≤ 0 := by
  unfold cq
  rw [if_neg h]
  split <;> omega
theorem mir {c : Rat} {x : Int} : c + (c - (x : Rat)) = 2 * c - (x : Rat) := by grind
theorem z_eqz {z z' : Int} {k k' : Nat} (e : z = z') (hk : k ≤ k') : (T.Z z k).le (T.Z z' k') := by subst e; exact z_mono hk

theorem t_behind {c : Rat} {x : Int} {k l : Nat} (hk : k ≤ 4294967296) (hl : l ≤ 4294967296) : Fn Tryz.prog 166 [T.V c k, T.Zi x l] [] [] [] (T.Z (bhd c x) (2 * k + l + 16)) := by
  refine fn_of Tryz.func166 rfl (by show 2 ≤ 42; decide) fun cx hcx => ?_
  refine tri_sub (sl 0 rfl (sl 1 rfl sn)) en ?_
  refine tri_seq ?_
  refine tri_reg mixed hcx ?_ _ _
  refine bx 10 rfl ?_
  refine bx 11 rfl ?_
  refine nw 12 zeZ ?_
  refine ⟨by kernel_rfl, ?_⟩
  refine nx (sl 2 rfl (sl 3 rfl (sl 4 rfl sn))) (el 10 rfl (el 11 rfl (el 12 rfl en))) ?_
  refine tri_seq ?_
  refine tri_reg mixed hcx ?_ _ _
  refine ld rfl rfl tyQ rfl ?_
  refine ld rfl rfl tyZ rfl ?_
  refine ca rfl (h := rat_Of (by omega)) (hn := ?_)
  refine cb rfl (h := rv_Sub (by omega) (by omega)) (hn := ?_)
  refine mv rfl ?_
  refine ex rfl rfl ?_
  refine ex rfl rfl ?_
  refine nw 117 zeQ ?_
  refine st rfl rfl rfl tyQ rfl ?_
  refine asg rfl ?_
  refine ⟨by kernel_rfl, ?_⟩
  refine nx (sl 2 rfl (sl 3 rfl (sl 4 rfl (sl 5 rfl sn)))) (el 10 rfl (el 11 rfl (el 12 rfl (el 117 rfl en)))) ?_
  refine tri_seq ?_
  refine tri_reg mixed hcx ?_ _ _
  refine ld rfl rfl tyQ rfl ?_
  refine ld rfl rfl tyQ rfl ?_
  refine cb rfl (h := rv_Add (by omega) (by omega)) (hn := ?_)
  refine mv rfl ?_
  refine ex rfl rfl ?_
  refine ex rfl rfl ?_
  refine st rfl rfl rfl tyQ rfl ?_
  refine ⟨by kernel_rfl, ?_⟩
  refine nx (sl 2 rfl (sl 3 rfl (sl 4 rfl (sl 5 rfl sn)))) (el 10 rfl (el 11 rfl (el 12 rfl (el 117 rfl en)))) ?_
  refine tri_seq ?_
  refine tri_reg mixed hcx ?_ _ _
  refine ld rfl rfl tyQ rfl ?_
  refine cb rfl (h := rv_Floor (by omega)) (hn := ?_)
  refine mv rfl ?_
  refine ex rfl rfl ?_
  refine ex rfl rfl ?_
  refine nw 315 zeZ ?_
  refine st rfl rfl rfl tyZ rfl ?_
  refine asg rfl ?_
  refine ⟨by kernel_rfl, ?_⟩
  refine nx (sl 2 rfl (sl 3 rfl (sl 4 rfl (sl 7 rfl sn)))) (el 10 rfl (el 11 rfl (el 12 rfl (el 117 rfl (el 315 rfl en))))) ?_
  refine tri_seq ?_
  refine tri_reg mixed hcx ?_ _ _
  refine ld rfl rfl tyZ rfl ?_
  refine ca rfl (h := rat_Of (by omega)) (hn := ?_)
  refine ld rfl rfl tyQ rfl ?_
  refine cb rfl (h := rv_Cmp (by omega) (by omega)) (hn := ?_)
  refine mv rfl ?_
  refine ex rfl rfl ?_
  refine ex rfl rfl ?_
  refine asg rfl ?_
  refine asg rfl ?_
  refine ⟨by kernel_rfl, ?_⟩
  refine nx (sl 4 rfl (sl 7 rfl (sl 9 rfl sn))) (el 10 rfl (el 11 rfl (el 12 rfl (el 117 rfl (el 315 rfl en))))) ?_
  refine tri_seq ?_
  refine tri_seq ?_
  by_cases hc : c < (x : Rat)
  · have hcq := cq_pos hc
    refine tri_reg mixed hcx ?_ _ _
    refine mv rfl ?_
    refine cgt rfl rfl (decide_eq_true (by omega)) ?_
    refine ⟨by kernel_rfl, ?_⟩
    refine nx (sl 4 rfl (sl 7 rfl (sl 37 rfl sn))) (el 10 rfl (el 11 rfl (el 12 rfl (el 117 rfl (el 315 rfl en))))) ?_
    refine tri_true rfl rfl ?_
    refine tri_seq ?_
    refine tri_reg mixed hcx ?_ _ _
    refine ld rfl rfl tyZ rfl ?_
    refine st rfl rfl rfl tyZ rfl ?_
    refine ⟨by kernel_rfl, ?_⟩
    refine nx (sl 4 rfl sn) (el 10 rfl (el 11 rfl (el 12 rfl (el 117 rfl (el 315 rfl en))))) ?_
    refine tri_ret ?_
    repeat (first | refine pn_thenr ?_ | refine pn_blkr ?_)
    exact ret1 hcx rfl (rv_cell (c' := cx) (n := 0) rfl rfl tyZ rfl) (z_eqz (by unfold bhd; rw [if_pos hc, mir]) (by omega)) en
  · have hcq := cq_npos hc
    refine tri_reg mixed hcx ?_ _ _
    refine mv rfl ?_
    refine cgt rfl rfl (decide_eq_false (by omega)) ?_
    refine ⟨by kernel_rfl, ?_⟩
    refine nx (sl 4 rfl (sl 7 rfl (sl 37 rfl sn))) (el 10 rfl (el 11 rfl (el 12 rfl (el 117 rfl (el 315 rfl en))))) ?_
    refine tri_false rfl rfl ?_
    refine tri_skip ?_
    refine nx (sl 4 rfl (sl 7 rfl sn)) (el 10 rfl (el 11 rfl (el 12 rfl (el 117 rfl (el 315 rfl en))))) ?_
    refine tri_seq ?_
    refine tri_reg mixed hcx ?_ _ _
    refine ld rfl rfl tyZ rfl ?_
    refine ca rfl (h := zi_Of (by omega) (by omega)) (hn := ?_)
    refine ca rfl (h := zi_Add (by omega) (by omega)) (hn := ?_)
    refine st rfl rfl rfl tyZ rfl ?_
    refine ⟨by kernel_rfl, ?_⟩
    refine nx (sl 4 rfl sn) (el 10 rfl (el 11 rfl (el 12 rfl (el 117 rfl (el 315 rfl en))))) ?_
    refine tri_ret ?_
    repeat (first | refine pn_thenr ?_ | refine pn_blkr ?_)
    exact ret1 hcx rfl (rv_cell (c' := cx) (n := 0) rfl rfl tyZ rfl) (z_eqz (by unfold bhd; rw [if_neg hc, mir]) (by omega)) en

theorem sg_nn {a : Int} (h : 0 ≤ a) : 0 ≤ sg a := by unfold sg sgnc; split <;> (try split) <;> omega

theorem t_Valid {D : List Int} {L : List (List Int)} {ts : List (Int × Int)} {a b : Int} {n k : Nat} (h : TrS D L ts n k) (hb : 0 < b) (ha : 0 ≤ a) : Fn Tryz.prog 79 [T.Tr D L ts a b k] [] [] [] (T.c (.int .i64 0)) := by
  refine fn_of Tryz.func79 rfl (by show 1 ≤ 61; decide) fun cx hcx => ?_
  refine tri_sub (sl 0 rfl sn) en ?_
  have hn12 := h.twelve
  have hkk := h.hk
  have hlL := h.len
  have hn0 := h.pos
  have hsb : sg b = 1 := sg_pos hb
  have hsa : 0 ≤ sg a := sg_nn ha
  have hDl : D.length = L.length + 1 := h.good.2.1
  refine tri_seq ?_
  refine tri_reg mixed hcx ?_ _ _
  refine bxs 10 rfl ?_
  refine asg rfl ?_
  refine ⟨by kernel_rfl, ?_⟩
  refine nx (sl 1 rfl sn) (el 10 rfl en) ?_
  refine tri_seq ?_
  refine tri_reg mixed hcx ?_ _ _
  refine fa rfl fTrG 0 ?_
  refine fa rfl fL 1 ?_
  refine ld rfl rfl tyZss rfl ?_
  refine ln slZss rfl ?_
  refine asg rfl ?_
  refine ⟨by kernel_rfl, ?_⟩
  refine nx (sl 1 rfl (sl 3 rfl sn)) (el 10 rfl en) ?_
  refine tri_seq ?_
  refine tri_seq ?_
  rcases h.tl with htl | htl
  · refine tri_reg mixed hcx ?_ _ _
    refine mv rfl ?_
    refine cgt rfl rfl (decide_eq_false (by omega)) ?_
    refine mv rfl ?_
    refine fa rfl fTrT 2 ?_ (hg := gd1)
    refine ld rfl rfl tyQs rfl ?_ (hg := gd1)
    refine ln slQs rfl ?_ (hg := gd1)
    refine cne rfl rfl (decide_eq_false (by omega)) ?_ (hg := gd1)
    refine mv rfl ?_ (hg := gd1)
    refine j_off rfl rfl rfl rfl ?_
    refine j_off rfl rfl rfl rfl ?_
    refine j_off rfl rfl rfl rfl ?_
    refine j_off rfl rfl rfl rfl ?_
    refine j_off rfl rfl rfl rfl ?_
    refine pk rfl rfl ?_ (hg := gd1)
    refine pk rfl rfl ?_
    refine mv rfl ?_
    refine fa rfl fTrR 3 ?_ (hg := gd1)
    refine fa rfl fDen 5 ?_ (hg := gd1)
    refine ld rfl rfl tyZ rfl ?_ (hg := gd1)
    refine ca rfl (h := zi_Sign (by omega)) (hn := ?_) (hg := gd1)
    refine cle rfl rfl (decide_eq_false (by omega)) ?_ (hg := gd1)
    refine pk rfl rfl ?_
    refine mv rfl ?_
    refine fa rfl fTrR 3 ?_ (hg := gd1)
    refine fa rfl fNum 3 ?_ (hg := gd1)
    refine ld rfl rfl tyZ rfl ?_ (hg := gd1)
    refine ca rfl (h := zi_Sign (by omega)) (hn := ?_) (hg := gd1)
    refine clt rfl rfl (decide_eq_false (by omega)) ?_ (hg := gd1)
    refine pk rfl rfl ?_
    refine ⟨by kernel_rfl, ?_⟩
    refine nx (sl 1 rfl (sl 40 rfl sn)) (el 10 rfl en) ?_
    refine tri_false rfl rfl ?_
    refine tri_skip ?_
    refine nx (sl 1 rfl sn) (el 10 rfl en) ?_
    refine tri_seq ?_
    refine tri_seq ?_
    refine tri_reg mixed hcx ?_ _ _
    refine fa rfl fTrG 0 ?_
    refine ld rfl rfl tyG rfl ?_
    refine ca rfl (h := g_Star (k := k) (i := 0) (by omega) (by omega) h.good h.good.1) (hn := ?_)
    refine mv rfl ?_
    refine ex rfl rfl ?_
    refine ex rfl rfl ?_
    refine nw 416 zeQ ?_
    refine st rfl rfl rfl tyQ rfl ?_
    refine asg rfl ?_
    refine ⟨by kernel_rfl, ?_⟩
    refine nx (sl 1 rfl (sl 5 rfl sn)) (el 10 rfl (el 416 rfl en)) ?_
    refine tri_seq ?_
    refine tri_reg mixed hcx ?_ _ _
    refine mv rfl ?_
    refine cne rfl rfl (decide_eq_false (by omega)) ?_
    refine ⟨by kernel_rfl, ?_⟩
    refine nx (sl 1 rfl (sl 48 rfl sn)) (el 10 rfl (el 416 rfl en)) ?_
    refine tri_false rfl rfl ?_
    refine tri_skip ?_
    refine nx (sl 1 rfl sn) (el 10 rfl (el 416 rfl en)) ?_
    refine tri_seq ?_
    refine tri_seq ?_
    refine tri_reg mixed hcx ?_ _ _
    refine fa rfl fTrT 2 ?_
    refine ld rfl rfl tyQs rfl ?_
    refine ln slQs rfl ?_
    refine mv rfl ?_
    refine ⟨by kernel_rfl, ?_⟩
    refine nx (sl 50 rfl (sl 51 rfl (sl 52 rfl sn))) (el 10 rfl (el 416 rfl en)) ?_
    refine tri_block ?_
    refine tri_loop (ι := Nat) (fun i => [(50, T.l (cQi k) ts), (51, T.c (.int .i64 (ts.length : Int))), (52, T.c (.int .i64 (i : Int)))]) (fun i => []) (fun i => ts.length - i) (fun i => (i ≤ ts.length)) 0 (Nat.zero_le _) (sl 50 rfl (sl 51 rfl (sl 52 rfl sn))) en ?_
    rintro i hi
    refine tri_sub (sl 50 rfl (sl 51 rfl (sl 52 rfl sn))) en ?_
    refine tri_seq ?_
    refine tri_reg mixed hcx ?_ _ _
    refine clt rfl rfl rfl ?_
    refine ⟨by kernel_rfl, ?_⟩
    refine nx (sl 50 rfl (sl 51 rfl (sl 52 rfl (sl 53 rfl sn)))) en ?_
    refine tri_seq ?_
    refine tri_if rfl (fun hc => ?_) (fun hc => ?_)
    · have hte : sg (ts.getD i (cQi k).dflt).2 = 1 := sg_pos (h.tp i (by omega))
      refine tri_skip ?_
      refine nx (sl 50 rfl (sl 51 rfl (sl 52 rfl sn))) en ?_
      refine tri_seq ?_
      refine tri_block ?_
      refine tri_seq ?_
      refine tri_reg mixed hcx ?_ _ _
      refine ix rfl rfl slQs ⟨rfl, by omega⟩ ?_
      refine lf rfl tyQ ?_
      refine nw 912 zeQ ?_
      refine sts (zz := [T.Zi (ts.getD i (cQi k).dflt).1 k, T.Zi (ts.getD i (cQi k).dflt).2 k]) rfl rfl rfl tyQ rfl ?_
      refine ⟨by kernel_rfl, ?_⟩
      refine nx (sl 7 rfl (sl 50 rfl (sl 51 rfl (sl 52 rfl sn)))) (el 912 rfl en) ?_
      refine tri_seq ?_
      refine tri_reg mixed hcx ?_ _ _
      refine fa rfl fDen 2 ?_
      refine ld rfl rfl tyZ rfl ?_
      refine ca rfl (h := zi_Sign (by omega)) (hn := ?_)
      refine cle rfl rfl (decide_eq_false (by omega)) ?_
      refine ⟨by kernel_rfl, ?_⟩
      refine nx (sl 50 rfl (sl 51 rfl (sl 52 rfl (sl 59 rfl sn)))) (el 912 rfl en) ?_
      refine tri_false rfl rfl ?_
      refine tri_skip ?_
      refine pn_blk ?_
      refine nx (sl 50 rfl (sl 51 rfl (sl 52 rfl sn))) (el 912 rfl en) ?_
      refine tri_reg mixed hcx ?_ _ _
      refine ad (((i + 1 : Nat) : Int)) rfl rfl rfl (by omega) ?_
      refine mv rfl ?_
      refine ⟨by kernel_rfl, ?_⟩
      exact pn_back (i + 1) (by first | omega | (dsimp only; omega)) (by omega) (sl 50 rfl (sl 51 rfl (sl 52 rfl sn))) en
    · refine tri_exit ?_
      repeat (first | refine pn_then ?_ | refine pn_oth (by decide) ?_)
      refine pn_ex ?_
      refine nx sn en ?_
      refine tri_seq ?_
      refine tri_reg mixed hcx ?_ _ _
      refine asg rfl ?_
      refine ⟨by kernel_rfl, ?_⟩
      refine nx (sl 2 rfl sn) en ?_
      refine tri_ret ?_
      repeat (first | refine pn_thenr ?_ | refine pn_blkr ?_)
      exact ret1 hcx rfl (rv_tmp rfl) (.refl _) en
  · have htz : ts.length ≠ 0 := by omega
    refine tri_reg mixed hcx ?_ _ _
    refine mv rfl ?_
    refine cgt rfl rfl (decide_eq_false (by omega)) ?_
    refine mv rfl ?_
    refine fa rfl fTrT 2 ?_ (hg := gd1)
    refine ld rfl rfl tyQs rfl ?_ (hg := gd1)
    refine ln slQs rfl ?_ (hg := gd1)
    refine cne rfl rfl (decide_eq_true (by omega)) ?_ (hg := gd1)
    refine mv rfl ?_ (hg := gd1)
    refine fa rfl fTrT 2 ?_ (hg := gd1)
    refine ld rfl rfl tyQs rfl ?_ (hg := gd1)
    refine ln slQs rfl ?_ (hg := gd1)
    refine mv rfl ?_ (hg := gd1)
    refine cne rfl rfl (decide_eq_false (by omega)) ?_ (hg := gd1)
    refine pk rfl rfl ?_ (hg := gd1)
    refine pk rfl rfl ?_
    refine mv rfl ?_
    refine fa rfl fTrR 3 ?_ (hg := gd1)
    refine fa rfl fDen 5 ?_ (hg := gd1)
    refine ld rfl rfl tyZ rfl ?_ (hg := gd1)
    refine ca rfl (h := zi_Sign (by omega)) (hn := ?_) (hg := gd1)
    refine cle rfl rfl (decide_eq_false (by omega)) ?_ (hg := gd1)
    refine pk rfl rfl ?_
    refine mv rfl ?_
    refine fa rfl fTrR 3 ?_ (hg := gd1)
    refine fa rfl fNum 3 ?_ (hg := gd1)
    refine ld rfl rfl tyZ rfl ?_ (hg := gd1)
    refine ca rfl (h := zi_Sign (by omega)) (hn := ?_) (hg := gd1)
    refine clt rfl rfl (decide_eq_false (by omega)) ?_ (hg := gd1)
    refine pk rfl rfl ?_
    refine ⟨by kernel_rfl, ?_⟩
    refine nx (sl 1 rfl (sl 40 rfl sn)) (el 10 rfl en) ?_
    refine tri_false rfl rfl ?_
    refine tri_skip ?_
    refine nx (sl 1 rfl sn) (el 10 rfl en) ?_
    refine tri_seq ?_
    refine tri_seq ?_
    refine tri_reg mixed hcx ?_ _ _
    refine fa rfl fTrG 0 ?_
    refine ld rfl rfl tyG rfl ?_
    refine ca rfl (h := g_Star (k := k) (i := 0) (by omega) (by omega) h.good h.good.1) (hn := ?_)
    refine mv rfl ?_
    refine ex rfl rfl ?_
    refine ex rfl rfl ?_
    refine nw 416 zeQ ?_
    refine st rfl rfl rfl tyQ rfl ?_
    refine asg rfl ?_
    refine ⟨by kernel_rfl, ?_⟩
    refine nx (sl 1 rfl (sl 5 rfl sn)) (el 10 rfl (el 416 rfl en)) ?_
    refine tri_seq ?_
    refine tri_reg mixed hcx ?_ _ _
    refine mv rfl ?_
    refine cne rfl rfl (decide_eq_false (by omega)) ?_
    refine ⟨by kernel_rfl, ?_⟩
    refine nx (sl 1 rfl (sl 48 rfl sn)) (el 10 rfl (el 416 rfl en)) ?_
    refine tri_false rfl rfl ?_
    refine tri_skip ?_
    refine nx (sl 1 rfl sn) (el 10 rfl (el 416 rfl en)) ?_
    refine tri_seq ?_
    refine tri_seq ?_
    refine tri_reg mixed hcx ?_ _ _
    refine fa rfl fTrT 2 ?_
    refine ld rfl rfl tyQs rfl ?_
    refine ln slQs rfl ?_
    refine mv rfl ?_
    refine ⟨by kernel_rfl, ?_⟩
    refine nx (sl 50 rfl (sl 51 rfl (sl 52 rfl sn))) (el 10 rfl (el 416 rfl en)) ?_
    refine tri_block ?_
    refine tri_loop (ι := Nat) (fun i => [(50, T.l (cQi k) ts), (51, T.c (.int .i64 (ts.length : Int))), (52, T.c (.int .i64 (i : Int)))]) (fun i => []) (fun i => ts.length - i) (fun i => (i ≤ ts.length)) 0 (Nat.zero_le _) (sl 50 rfl (sl 51 rfl (sl 52 rfl sn))) en ?_
    rintro i hi
    refine tri_sub (sl 50 rfl (sl 51 rfl (sl 52 rfl sn))) en ?_
    refine tri_seq ?_
    refine tri_reg mixed hcx ?_ _ _
    refine clt rfl rfl rfl ?_
    refine ⟨by kernel_rfl, ?_⟩
    refine nx (sl 50 rfl (sl 51 rfl (sl 52 rfl (sl 53 rfl sn)))) en ?_
    refine tri_seq ?_
    refine tri_if rfl (fun hc => ?_) (fun hc => ?_)
    · have hte : sg (ts.getD i (cQi k).dflt).2 = 1 := sg_pos (h.tp i (by omega))
      refine tri_skip ?_
      refine nx (sl 50 rfl (sl 51 rfl (sl 52 rfl sn))) en ?_
      refine tri_seq ?_
      refine tri_block ?_
      refine tri_seq ?_
      refine tri_reg mixed hcx ?_ _ _
      refine ix rfl rfl slQs ⟨rfl, by omega⟩ ?_
      refine lf rfl tyQ ?_
      refine nw 912 zeQ ?_
      refine sts (zz := [T.Zi (ts.getD i (cQi k).dflt).1 k, T.Zi (ts.getD i (cQi k).dflt).2 k]) rfl rfl rfl tyQ rfl ?_
      refine ⟨by kernel_rfl, ?_⟩
      refine nx (sl 7 rfl (sl 50 rfl (sl 51 rfl (sl 52 rfl sn)))) (el 912 rfl en) ?_
      refine tri_seq ?_
      refine tri_reg mixed hcx ?_ _ _
      refine fa rfl fDen 2 ?_
      refine ld rfl rfl tyZ rfl ?_
      refine ca rfl (h := zi_Sign (by omega)) (hn := ?_)
      refine cle rfl rfl (decide_eq_false (by omega)) ?_
      refine ⟨by kernel_rfl, ?_⟩
      refine nx (sl 50 rfl (sl 51 rfl (sl 52 rfl (sl 59 rfl sn)))) (el 912 rfl en) ?_
      refine tri_false rfl rfl ?_
      refine tri_skip ?_
      refine pn_blk ?_
      refine nx (sl 50 rfl (sl 51 rfl (sl 52 rfl sn))) (el 912 rfl en) ?_
      refine tri_reg mixed hcx ?_ _ _
      refine ad (((i + 1 : Nat) : Int)) rfl rfl rfl (by omega) ?_
      refine mv rfl ?_
      refine ⟨by kernel_rfl, ?_⟩
      exact pn_back (i + 1) (by first | omega | (dsimp only; omega)) (by omega) (sl 50 rfl (sl 51 rfl (sl 52 rfl sn))) en
    · refine tri_exit ?_
      repeat (first | refine pn_then ?_ | refine pn_oth (by decide) ?_)
      refine pn_ex ?_
      refine nx sn en ?_
      refine tri_seq ?_
      refine tri_reg mixed hcx ?_ _ _
      refine asg rfl ?_
      refine ⟨by kernel_rfl, ?_⟩
      refine nx (sl 2 rfl sn) en ?_
      refine tri_ret ?_
      repeat (first | refine pn_thenr ?_ | refine pn_blkr ?_)
      exact ret1 hcx rfl (rv_tmp rfl) (.refl _) en

theorem t_aim {D : List Int} {L : List (List Int)} {ts : List (Int × Int)} {a b : Int} {n k : Nat} (h : TrS D L ts n k) {i : Nat} (hi : i < n) : Fn Tryz.prog 162 [T.Tr D L ts a b k, T.c (.int .i64 (i : Int))] [] [] [] (T.V (aqT ts i) (k + 2)) := by
  refine fn_of Tryz.func162 rfl (by show 2 ≤ 16; decide) fun cx hcx => ?_
  refine tri_sub (sl 0 rfl (sl 1 rfl sn)) en ?_
  have hn12 := h.twelve
  have hkk := h.hk
  have hlL := h.len
  have hn0 := h.pos
  refine tri_seq ?_
  refine tri_reg mixed hcx ?_ _ _
  refine bxs 10 rfl ?_
  refine nw 11 zeQ ?_
  refine ⟨by kernel_rfl, ?_⟩
  refine nx (sl 1 rfl (sl 2 rfl (sl 4 rfl sn))) (el 10 rfl (el 11 rfl en)) ?_
  refine tri_seq ?_
  refine tri_seq ?_
  by_cases htz : ts.length = 0
  · refine tri_reg mixed hcx ?_ _ _
    refine fa rfl fTrT 2 ?_
    refine ld rfl rfl tyQs rfl ?_
    refine ln slQs rfl ?_
    refine ceq rfl rfl (decide_eq_true (by omega)) ?_
    refine ⟨by kernel_rfl, ?_⟩
    refine nx (sl 1 rfl (sl 2 rfl (sl 4 rfl (sl 8 rfl sn)))) (el 10 rfl (el 11 rfl en)) ?_
    refine tri_true rfl rfl ?_
    refine tri_seq ?_
    refine tri_reg mixed hcx ?_ _ _
    refine ca rfl (h := zi_Of (by omega) (by omega)) (hn := ?_)
    refine ca rfl (h := rat_Of (by omega)) (hn := ?_)
    refine st rfl rfl rfl tyQ rfl ?_
    refine ⟨by kernel_rfl, ?_⟩
    refine nx (sl 4 rfl sn) (el 10 rfl (el 11 rfl en)) ?_
    refine tri_ret ?_
    repeat (first | refine pn_thenr ?_ | refine pn_blkr ?_)
    exact ret1 hcx rfl (rv_cell (c' := cx) (n := 0) rfl rfl tyQ rfl) (q_vq (by unfold aqT; rw [if_pos htz]; rfl) (h.a hi)) en
  · have hti : i < ts.length := by rcases h.tl with h1 | h1 <;> omega
    have hte := h.tp i hti
    refine tri_reg mixed hcx ?_ _ _
    refine fa rfl fTrT 2 ?_
    refine ld rfl rfl tyQs rfl ?_
    refine ln slQs rfl ?_
    refine ceq rfl rfl (decide_eq_false (by omega)) ?_
    refine ⟨by kernel_rfl, ?_⟩
    refine nx (sl 1 rfl (sl 2 rfl (sl 4 rfl (sl 8 rfl sn)))) (el 10 rfl (el 11 rfl en)) ?_
    refine tri_false rfl rfl ?_
    refine tri_skip ?_
    refine nx (sl 1 rfl (sl 2 rfl (sl 4 rfl sn))) (el 10 rfl (el 11 rfl en)) ?_
    refine tri_seq ?_
    refine tri_reg mixed hcx ?_ _ _
    refine fa rfl fTrT 2 ?_
    refine ld rfl rfl tyQs rfl ?_
    refine mv rfl ?_
    refine ix rfl rfl slQs ⟨rfl, by omega⟩ ?_
    refine lf rfl tyQ ?_
    refine st rfl rfl rfl tyQ rfl ?_
    refine ⟨by kernel_rfl, ?_⟩
    refine nx (sl 4 rfl sn) (el 10 rfl (el 11 rfl en)) ?_
    refine tri_ret ?_
    repeat (first | refine pn_thenr ?_ | refine pn_blkr ?_)
    exact ret1 hcx rfl (rv_cell (c' := cx) (n := 0) rfl rfl tyQ rfl) (qi_v hte (by unfold aqT; rw [if_neg htz]; rfl) (by omega)) en

theorem t_centre {D : List Int} {L : List (List Int)} {ts : List (Int × Int)} {a b : Int} {n k : Nat} (h : TrS D L ts n k) {s : List Int} (hs : s.length + 1 ≤ n) : Fn Tryz.prog 117 [T.Tr D L ts a b k, T.l (cZi k) s] [] [] [] (T.Q (ctT D L ts s (n - 1) (n - 1 - s.length) s.length) 600000000) := by
  refine fn_of Tryz.func117 rfl (by show 2 ≤ 76; decide) fun cx hcx => ?_
  refine tri_sub (sl 0 rfl (sl 1 rfl sn)) en ?_
  have hn12 := h.twelve
  have hkk := h.hk
  have hlL := h.len
  have hn0 := h.pos
  refine tri_lz 1 rfl fun hz => ?_
  have hQ := fun e (he : n - 1 - s.length + e ≤ n - 1) => h.ct' hz (m := n - 1) (i := n - 1 - s.length) (c := e) (by omega) he
  refine tri_seq ?_
  refine tri_reg mixed hcx ?_ _ _
  refine bxs 10 rfl ?_
  refine nw 11 zeQ ?_
  refine ⟨by kernel_rfl, ?_⟩
  refine nx (sl 1 rfl (sl 2 rfl (sl 4 rfl sn))) (el 10 rfl (el 11 rfl en)) ?_
  refine tri_seq ?_
  refine tri_reg mixed hcx ?_ _ _
  refine fa rfl fTrG 0 ?_
  refine fa rfl fL 1 ?_
  refine ld rfl rfl tyZss rfl ?_
  refine ln slZss rfl ?_
  refine asg rfl ?_
  refine ⟨by kernel_rfl, ?_⟩
  refine nx (sl 1 rfl (sl 2 rfl (sl 4 rfl (sl 5 rfl sn)))) (el 10 rfl (el 11 rfl en)) ?_
  refine tri_seq ?_
  refine tri_reg mixed hcx ?_ _ _
  refine mv rfl ?_
  refine sb (((n - 1 : Nat) : Int)) rfl rfl rfl (by omega) ?_
  refine mv rfl ?_
  refine ln slZs rfl ?_
  refine sb (((n - 1 - s.length : Nat) : Int)) rfl rfl rfl (by omega) ?_
  refine asg rfl ?_
  refine ⟨by kernel_rfl, ?_⟩
  refine nx (sl 1 rfl (sl 2 rfl (sl 4 rfl (sl 5 rfl (sl 6 rfl sn))))) (el 10 rfl (el 11 rfl en)) ?_
  refine tri_seq ?_
  refine tri_reg mixed hcx ?_ _ _
  refine ld rfl rfl tyTr rfl ?_
  refine mv rfl ?_
  refine cb rfl (h := t_aim h (by omega)) (hn := ?_)
  refine ca rfl (h := zi_Of (by omega) (by omega)) (hn := ?_)
  refine ca rfl (h := rat_Of (by omega)) (hn := ?_)
  refine cb rfl (h := rv_Add (by omega) (by omega)) (hn := ?_)
  refine mv rfl ?_
  refine ex rfl rfl ?_
  refine ex rfl rfl ?_
  refine nw 319 zeQ ?_
  refine st rfl rfl rfl tyQ rfl ?_
  refine asg rfl ?_
  refine ⟨by kernel_rfl, ?_⟩
  refine nx (sl 1 rfl (sl 2 rfl (sl 4 rfl (sl 5 rfl (sl 6 rfl (sl 7 rfl sn)))))) (el 10 rfl (el 11 rfl (el 319 rfl en))) ?_
  refine tri_seq ?_
  refine tri_seq ?_
  refine tri_reg mixed hcx ?_ _ _
  refine mv rfl ?_
  refine ln slZs rfl ?_
  refine mv rfl ?_
  refine ⟨by kernel_rfl, ?_⟩
  refine nx (sl 1 rfl (sl 2 rfl (sl 4 rfl (sl 5 rfl (sl 6 rfl (sl 7 rfl (sl 34 rfl (sl 35 rfl sn)))))))) (el 10 rfl (el 11 rfl (el 319 rfl en))) ?_
  refine tri_block ?_
  refine tri_loop (ι := Nat) (fun e => [(1, T.l (cZi k) s), (2, T.p 10 0), (4, T.p 11 0), (5, T.c (.int .i64 (L.length : Int))), (6, T.c (.int .i64 ((n - 1 - s.length : Nat) : Int))), (7, T.p 319 0), (34, T.c (.int .i64 (s.length : Int))), (35, T.c (.int .i64 (e : Int)))]) (fun e => [(10, some (Ent.box 39 [T.l (cZi k) D, T.l (cL (cZi k)) L, T.l (cQi k) ts, T.Zi a k, T.Zi b k])), (11, some (Ent.box 34 [T.c (.bool false), T.c (.slice none 0 0), T.c (.bool false), T.c (.slice none 0 0)])), (319, some (Ent.box 34 [T.Q (ctT D L ts s (n - 1) (n - 1 - s.length) e) 600000000]))]) (fun e => s.length - e) (fun e => (e ≤ s.length)) 0 (Nat.zero_le _) (sl 1 rfl (sl 2 rfl (sl 4 rfl (sl 5 rfl (sl 6 rfl (sl 7 rfl (sl 34 rfl (sl 35 rfl sn)))))))) (el 10 rfl (el 11 rfl (ew 319 rfl (box_q (q_qb (by show aqT ts _ + (0 : Rat) = aqT ts _; grind) (hQ 0 (by omega)))) en))) ?_
  rintro e he
  refine tri_sub (sl 1 rfl (sl 2 rfl (sl 4 rfl (sl 5 rfl (sl 6 rfl (sl 7 rfl (sl 34 rfl (sl 35 rfl sn)))))))) (el 10 rfl (el 11 rfl (el 319 rfl en))) ?_
  refine tri_seq ?_
  refine tri_reg mixed hcx ?_ _ _
  refine clt rfl rfl rfl ?_
  refine ⟨by kernel_rfl, ?_⟩
  refine nx (sl 1 rfl (sl 2 rfl (sl 4 rfl (sl 5 rfl (sl 6 rfl (sl 7 rfl (sl 34 rfl (sl 35 rfl (sl 36 rfl sn))))))))) (el 10 rfl (el 11 rfl (el 319 rfl en))) ?_
  refine tri_seq ?_
  refine tri_if rfl (fun hc => ?_) (fun hc => ?_)
  · refine tri_skip ?_
    refine nx (sl 1 rfl (sl 2 rfl (sl 4 rfl (sl 5 rfl (sl 6 rfl (sl 7 rfl (sl 34 rfl (sl 35 rfl sn)))))))) (el 10 rfl (el 11 rfl (el 319 rfl en))) ?_
    refine tri_seq ?_
    refine tri_block ?_
    refine tri_seq ?_
    refine tri_reg mixed hcx ?_ _ _
    refine mv rfl ?_
    refine asg rfl ?_
    refine ⟨by kernel_rfl, ?_⟩
    refine nx (sl 1 rfl (sl 2 rfl (sl 4 rfl (sl 5 rfl (sl 6 rfl (sl 7 rfl (sl 9 rfl (sl 34 rfl (sl 35 rfl sn))))))))) (el 10 rfl (el 11 rfl (el 319 rfl en))) ?_
    refine tri_seq ?_
    refine tri_reg mixed hcx ?_ _ _
    refine mv rfl ?_
    refine sb (((n - 1 : Nat) : Int)) rfl rfl rfl (by omega) ?_
    refine mv rfl ?_
    refine sb (((n - 1 - e : Nat) : Int)) rfl rfl rfl (by omega) ?_
    refine asg rfl ?_
    refine ⟨by kernel_rfl, ?_⟩
    refine nx (sl 1 rfl (sl 2 rfl (sl 4 rfl (sl 5 rfl (sl 6 rfl (sl 7 rfl (sl 9 rfl (sl 10 rfl (sl 34 rfl (sl 35 rfl sn)))))))))) (el 10 rfl (el 11 rfl (el 319 rfl en))) ?_
    refine tri_seq ?_
    refine tri_reg mixed hcx ?_ _ _
    refine mv rfl ?_
    refine mv rfl ?_
    refine ix rfl rfl slZs ⟨rfl, by omega⟩ ?_
    refine lf rfl tyZ ?_
    refine ca rfl (h := rat_Of (by omega)) (hn := ?_)
    refine ld rfl rfl tyTr rfl ?_
    refine mv rfl ?_
    refine cb rfl (h := t_aim h (by omega)) (hn := ?_)
    refine cb rfl (h := rv_Sub (by omega) (by omega)) (hn := ?_)
    refine mv rfl ?_
    refine ex rfl rfl ?_
    refine ex rfl rfl ?_
    refine nw 822 zeQ ?_
    refine st rfl rfl rfl tyQ rfl ?_
    refine asg rfl ?_
    refine ⟨by kernel_rfl, ?_⟩
    refine nx (sl 1 rfl (sl 2 rfl (sl 4 rfl (sl 5 rfl (sl 6 rfl (sl 7 rfl (sl 10 rfl (sl 11 rfl (sl 34 rfl (sl 35 rfl sn)))))))))) (el 10 rfl (el 11 rfl (el 319 rfl (el 822 rfl en)))) ?_
    refine tri_seq ?_
    refine tri_reg mixed hcx ?_ _ _
    refine fa rfl fTrG 0 ?_
    refine ld rfl rfl tyG rfl ?_
    refine mv rfl ?_
    refine mv rfl ?_
    refine ca rfl (h := g_Mu (k := k) (by omega) (by omega) h.good (i := n - 1 - e) (by omega) (by omega)) (hn := ?_)
    refine mv rfl ?_
    refine ex rfl rfl ?_
    refine ex rfl rfl ?_
    refine nw 918 zeQ ?_
    refine st rfl rfl rfl tyQ rfl ?_
    refine asg rfl ?_
    refine ⟨by kernel_rfl, ?_⟩
    refine nx (sl 1 rfl (sl 2 rfl (sl 4 rfl (sl 5 rfl (sl 6 rfl (sl 7 rfl (sl 11 rfl (sl 13 rfl (sl 34 rfl (sl 35 rfl sn)))))))))) (el 10 rfl (el 11 rfl (el 319 rfl (el 822 rfl (el 918 rfl en))))) ?_
    refine tri_seq ?_
    refine tri_reg mixed hcx ?_ _ _
    refine ld rfl rfl tyQ rfl ?_
    refine ld rfl rfl tyQ rfl ?_
    refine cb rfl (h := rv_Mul (by omega) (by omega)) (hn := ?_)
    refine mv rfl ?_
    refine ex rfl rfl ?_
    refine ex rfl rfl ?_
    refine st rfl rfl rfl tyQ rfl ?_
    refine ⟨by kernel_rfl, ?_⟩
    refine nx (sl 1 rfl (sl 2 rfl (sl 4 rfl (sl 5 rfl (sl 6 rfl (sl 7 rfl (sl 11 rfl (sl 34 rfl (sl 35 rfl sn))))))))) (el 10 rfl (el 11 rfl (el 319 rfl (el 822 rfl (el 918 rfl en))))) ?_
    refine tri_reg mixed hcx ?_ _ _
    refine ld rfl rfl tyQ rfl ?_
    refine ld rfl rfl tyQ rfl ?_
    refine cb rfl (h := rv_Sub (by omega) (by omega)) (hn := ?_)
    refine mv rfl ?_
    refine ex rfl rfl ?_
    refine ex rfl rfl ?_
    refine st rfl rfl rfl tyQ rfl ?_
    refine ⟨by kernel_rfl, ?_⟩
    refine pn_blk ?_
    refine nx (sl 1 rfl (sl 2 rfl (sl 4 rfl (sl 5 rfl (sl 6 rfl (sl 7 rfl (sl 34 rfl (sl 35 rfl sn)))))))) (el 10 rfl (el 11 rfl (el 319 rfl (el 822 rfl (el 918 rfl en))))) ?_
    refine tri_reg mixed hcx ?_ _ _
    refine ad (((e + 1 : Nat) : Int)) rfl rfl rfl (by omega) ?_
    refine mv rfl ?_
    refine ⟨by kernel_rfl, ?_⟩
    exact pn_back (e + 1) (by first | omega | (dsimp only; omega)) (by omega) (sl 1 rfl (sl 2 rfl (sl 4 rfl (sl 5 rfl (sl 6 rfl (sl 7 rfl (sl 34 rfl (sl 35 rfl sn)))))))) (el 10 rfl (el 11 rfl (ew 319 rfl (box_q (q_qb rfl (hQ (e + 1) (by omega)))) en)))
  · refine tri_exit ?_
    repeat (first | refine pn_then ?_ | refine pn_oth (by decide) ?_)
    refine pn_ex ?_
    have hes : e = s.length := by omega
    refine nx (sl 4 rfl (sl 7 rfl sn)) (el 10 rfl (el 11 rfl (el 319 rfl en))) ?_
    refine tri_seq ?_
    refine tri_reg mixed hcx ?_ _ _
    refine ld rfl rfl tyQ rfl ?_
    refine st rfl rfl rfl tyQ rfl ?_
    refine ⟨by kernel_rfl, ?_⟩
    refine nx (sl 4 rfl sn) (el 10 rfl (el 11 rfl (el 319 rfl en))) ?_
    refine tri_ret ?_
    repeat (first | refine pn_thenr ?_ | refine pn_blkr ?_)
    exact ret1 hcx rfl (rv_cell (c' := cx) (n := 0) rfl rfl tyQ rfl) (q_eq (by rw [hes]) (Nat.le_refl _)) en

theorem t_grown {D : List Int} {L : List (List Int)} {ts : List (Int × Int)} {a b : Int} {n k : Nat} (h : TrS D L ts n k) {p c : Rat} {x : Int} {kp kc kx d : Nat} (hd : d < n) (hkp : kp ≤ 15100000000) (hkc : kc ≤ 600000000) (hkx : kx ≤ 16777216) : Fn Tryz.prog 116 [T.Tr D L ts a b k, T.V p kp, T.V c kc, T.c (.int .i64 (d : Int)), T.Zi x kx] [] [] [] (T.Q (p + ((x : Rat) - c) * ((x : Rat) - c) * stq D (n - 1 - d)) (kp + (kx + 2 + kc + 1 + (kx + 2 + kc + 1) + (k + k)) + 1)) := by
  refine fn_of Tryz.func116 rfl (by show 5 ≤ 56; decide) fun cx hcx => ?_
  refine tri_sub (sl 0 rfl (sl 1 rfl (sl 2 rfl (sl 3 rfl (sl 4 rfl sn))))) en ?_
  have hn12 := h.twelve
  have hkk := h.hk
  have hlL := h.len
  have hn0 := h.pos
  refine tri_seq ?_
  refine tri_reg mixed hcx ?_ _ _
  refine bxs 10 rfl ?_
  refine bx 11 rfl ?_
  refine bx 12 rfl ?_
  refine bx 13 rfl ?_
  refine nw 14 zeQ ?_
  refine ⟨by kernel_rfl, ?_⟩
  refine nx (sl 3 rfl (sl 5 rfl (sl 6 rfl (sl 7 rfl (sl 9 rfl (sl 10 rfl sn)))))) (el 10 rfl (el 11 rfl (el 12 rfl (el 13 rfl (el 14 rfl en))))) ?_
  refine tri_seq ?_
  refine tri_reg mixed hcx ?_ _ _
  refine ld rfl rfl tyZ rfl ?_
  refine ca rfl (h := rat_Of (by omega)) (hn := ?_)
  refine ld rfl rfl tyQ rfl ?_
  refine cb rfl (h := rv_Sub (by omega) (by omega)) (hn := ?_)
  refine mv rfl ?_
  refine ex rfl rfl ?_
  refine ex rfl rfl ?_
  refine nw 117 zeQ ?_
  refine st rfl rfl rfl tyQ rfl ?_
  refine asg rfl ?_
  refine ⟨by kernel_rfl, ?_⟩
  refine nx (sl 3 rfl (sl 5 rfl (sl 6 rfl (sl 10 rfl (sl 11 rfl sn))))) (el 10 rfl (el 11 rfl (el 12 rfl (el 13 rfl (el 14 rfl (el 117 rfl en)))))) ?_
  refine tri_seq ?_
  refine tri_reg mixed hcx ?_ _ _
  refine ld rfl rfl tyQ rfl ?_
  refine ld rfl rfl tyQ rfl ?_
  refine cb rfl (h := rv_Mul (by omega) (by omega)) (hn := ?_)
  refine mv rfl ?_
  refine ex rfl rfl ?_
  refine ex rfl rfl ?_
  refine st rfl rfl rfl tyQ rfl ?_
  refine ⟨by kernel_rfl, ?_⟩
  refine nx (sl 3 rfl (sl 5 rfl (sl 6 rfl (sl 10 rfl (sl 11 rfl sn))))) (el 10 rfl (el 11 rfl (el 12 rfl (el 13 rfl (el 14 rfl (el 117 rfl en)))))) ?_
  refine tri_seq ?_
  refine tri_reg mixed hcx ?_ _ _
  refine fa rfl fTrG 0 ?_
  refine ld rfl rfl tyG rfl ?_
  refine fa rfl fTrG 0 ?_
  refine fa rfl fL 1 ?_
  refine ld rfl rfl tyZss rfl ?_
  refine ln slZss rfl ?_
  refine sb (((n - 1 : Nat) : Int)) rfl rfl rfl (by omega) ?_
  refine mv rfl ?_
  refine sb (((n - 1 - d : Nat) : Int)) rfl rfl rfl (by omega) ?_
  refine ca rfl (h := g_Star (k := k) (by omega) (by omega) h.good (i := n - 1 - d) (by omega)) (hn := ?_)
  refine mv rfl ?_
  refine ex rfl rfl ?_
  refine ex rfl rfl ?_
  refine nw 323 zeQ ?_
  refine st rfl rfl rfl tyQ rfl ?_
  refine asg rfl ?_
  refine ⟨by kernel_rfl, ?_⟩
  refine nx (sl 6 rfl (sl 10 rfl (sl 11 rfl (sl 13 rfl sn)))) (el 10 rfl (el 11 rfl (el 12 rfl (el 13 rfl (el 14 rfl (el 117 rfl (el 323 rfl en))))))) ?_
  refine tri_seq ?_
  refine tri_reg mixed hcx ?_ _ _
  refine ld rfl rfl tyQ rfl ?_
  refine ld rfl rfl tyQ rfl ?_
  refine cb rfl (h := rv_Mul (by omega) (by omega)) (hn := ?_)
  refine mv rfl ?_
  refine ex rfl rfl ?_
  refine ex rfl rfl ?_
  refine st rfl rfl rfl tyQ rfl ?_
  refine ⟨by kernel_rfl, ?_⟩
  refine nx (sl 6 rfl (sl 10 rfl (sl 11 rfl sn))) (el 10 rfl (el 11 rfl (el 12 rfl (el 13 rfl (el 14 rfl (el 117 rfl (el 323 rfl en))))))) ?_
  refine tri_seq ?_
  refine tri_reg mixed hcx ?_ _ _
  refine ld rfl rfl tyQ rfl ?_
  refine ld rfl rfl tyQ rfl ?_
  refine cb rfl (h := rv_Add (by omega) (by omega)) (hn := ?_)
  refine mv rfl ?_
  refine ex rfl rfl ?_
  refine ex rfl rfl ?_
  refine nw 516 zeQ ?_
  refine st rfl rfl rfl tyQ rfl ?_
  refine asg rfl ?_
  refine ⟨by kernel_rfl, ?_⟩
  refine nx (sl 10 rfl (sl 15 rfl sn)) (el 10 rfl (el 11 rfl (el 12 rfl (el 13 rfl (el 14 rfl (el 117 rfl (el 323 rfl (el 516 rfl en)))))))) ?_
  refine tri_seq ?_
  refine tri_reg mixed hcx ?_ _ _
  refine ld rfl rfl tyQ rfl ?_
  refine st rfl rfl rfl tyQ rfl ?_
  refine ⟨by kernel_rfl, ?_⟩
  refine nx (sl 10 rfl sn) (el 10 rfl (el 11 rfl (el 12 rfl (el 13 rfl (el 14 rfl (el 117 rfl (el 323 rfl (el 516 rfl en)))))))) ?_
  refine tri_ret ?_
  repeat (first | refine pn_thenr ?_ | refine pn_blkr ?_)
  exact ret1 hcx rfl (rv_cell (c' := cx) (n := 0) rfl rfl tyQ rfl) (.refl _) en

theorem t_part {D : List Int} {L : List (List Int)} {ts : List (Int × Int)} {a b : Int} {n k : Nat} (h : TrS D L ts n k) {s : List Int} (hs : s.length ≤ n) : Fn Tryz.prog 60 [T.Tr D L ts a b k, T.l (cZi k) s] [] [] [] (T.Q (ptT D L ts s (n - 1) s.length) 15100000000) := by
  refine fn_of Tryz.func60 rfl (by show 2 ≤ 29; decide) fun cx hcx => ?_
  refine tri_sub (sl 0 rfl (sl 1 rfl sn)) en ?_
  have hn12 := h.twelve
  have hkk := h.hk
  have hlL := h.len
  have hn0 := h.pos
  refine tri_lz 1 rfl fun hz => ?_
  have hQ := fun e (he : e ≤ n) => h.pt' hz (m := n - 1) (c := e) (by omega) he
  refine tri_seq ?_
  refine tri_reg mixed hcx ?_ _ _
  refine bxs 10 rfl ?_
  refine nw 11 zeQ ?_
  refine ⟨by kernel_rfl, ?_⟩
  refine nx (sl 1 rfl (sl 2 rfl (sl 4 rfl sn))) (el 10 rfl (el 11 rfl en)) ?_
  refine tri_seq ?_
  refine tri_reg mixed hcx ?_ _ _
  refine ca rfl (h := zi_Of (by omega) (by omega)) (hn := ?_)
  refine ca rfl (h := rat_Of (by omega)) (hn := ?_)
  refine nw 112 zeQ ?_
  refine st rfl rfl rfl tyQ rfl ?_
  refine ⟨by kernel_rfl, ?_⟩
  refine nx (sl 1 rfl (sl 2 rfl (sl 4 rfl (sl 5 rfl sn)))) (el 10 rfl (el 11 rfl (el 112 rfl en))) ?_
  refine tri_seq ?_
  refine tri_seq ?_
  refine tri_reg mixed hcx ?_ _ _
  refine mv rfl ?_
  refine ln slZs rfl ?_
  refine mv rfl ?_
  refine ⟨by kernel_rfl, ?_⟩
  refine nx (sl 1 rfl (sl 2 rfl (sl 4 rfl (sl 5 rfl (sl 10 rfl (sl 11 rfl sn)))))) (el 10 rfl (el 11 rfl (el 112 rfl en))) ?_
  refine tri_block ?_
  refine tri_loop (ι := Nat) (fun e => [(1, T.l (cZi k) s), (2, T.p 10 0), (4, T.p 11 0), (5, T.p 112 0), (10, T.c (.int .i64 (s.length : Int))), (11, T.c (.int .i64 (e : Int)))]) (fun e => [(10, some (Ent.box 39 [T.l (cZi k) D, T.l (cL (cZi k)) L, T.l (cQi k) ts, T.Zi a k, T.Zi b k])), (11, some (Ent.box 34 [T.c (.bool false), T.c (.slice none 0 0), T.c (.bool false), T.c (.slice none 0 0)])), (112, some (Ent.box 34 [T.Q (ptT D L ts s (n - 1) e) 15100000000]))]) (fun e => s.length - e) (fun e => (e ≤ s.length)) 0 (Nat.zero_le _) (sl 1 rfl (sl 2 rfl (sl 4 rfl (sl 5 rfl (sl 10 rfl (sl 11 rfl sn)))))) (el 10 rfl (el 11 rfl (ew 112 rfl (box_q (q_qb (by rfl) (hQ 0 (by omega)))) en))) ?_
  rintro e he
  refine tri_sub (sl 1 rfl (sl 2 rfl (sl 4 rfl (sl 5 rfl (sl 10 rfl (sl 11 rfl sn)))))) (el 10 rfl (el 11 rfl (el 112 rfl en))) ?_
  refine tri_seq ?_
  refine tri_reg mixed hcx ?_ _ _
  refine clt rfl rfl rfl ?_
  refine ⟨by kernel_rfl, ?_⟩
  refine nx (sl 1 rfl (sl 2 rfl (sl 4 rfl (sl 5 rfl (sl 10 rfl (sl 11 rfl (sl 12 rfl sn))))))) (el 10 rfl (el 11 rfl (el 112 rfl en))) ?_
  refine tri_seq ?_
  refine tri_if rfl (fun hc => ?_) (fun hc => ?_)
  · have htk : (s.take e).length = e := by rw [List.length_take]; omega
    have hCt := fn_out (t_centre (a := a) (b := b) (s := s.take e) h (by omega)) (q_eq (q' := ctT D L ts s (n - 1) (n - 1 - e) e) (by rw [htk]; exact ctT_ext fun j hj => by rw [take_getD hj]) (Nat.le_refl _))
    refine tri_skip ?_
    refine nx (sl 1 rfl (sl 2 rfl (sl 4 rfl (sl 5 rfl (sl 10 rfl (sl 11 rfl sn)))))) (el 10 rfl (el 11 rfl (el 112 rfl en))) ?_
    refine tri_seq ?_
    refine tri_block ?_
    refine tri_seq ?_
    refine tri_reg mixed hcx ?_ _ _
    refine mv rfl ?_
    refine asg rfl ?_
    refine ⟨by kernel_rfl, ?_⟩
    refine nx (sl 1 rfl (sl 2 rfl (sl 4 rfl (sl 5 rfl (sl 6 rfl (sl 10 rfl (sl 11 rfl sn))))))) (el 10 rfl (el 11 rfl (el 112 rfl en))) ?_
    refine tri_reg mixed hcx ?_ _ _
    refine ld rfl rfl tyTr rfl ?_
    refine ld rfl rfl tyQ rfl ?_
    refine ld rfl rfl tyTr rfl ?_
    refine mv rfl ?_
    refine mv rfl ?_
    refine sh rfl slZs rfl ⟨rfl, by omega⟩ ?_
    refine ca rfl (h := hCt) (hn := ?_)
    refine mv rfl ?_
    refine mv rfl ?_
    refine mv rfl ?_
    refine ix rfl rfl slZs ⟨rfl, by omega⟩ ?_
    refine lf rfl tyZ ?_
    refine cb rfl (h := t_grown h (by omega) (by omega) (by omega) (by omega)) (hn := ?_)
    refine st rfl rfl rfl tyQ rfl ?_
    refine ⟨by kernel_rfl, ?_⟩
    refine pn_blk ?_
    refine nx (sl 1 rfl (sl 2 rfl (sl 4 rfl (sl 5 rfl (sl 10 rfl (sl 11 rfl sn)))))) (el 10 rfl (el 11 rfl (el 112 rfl en))) ?_
    refine tri_reg mixed hcx ?_ _ _
    refine ad (((e + 1 : Nat) : Int)) rfl rfl rfl (by omega) ?_
    refine mv rfl ?_
    refine ⟨by kernel_rfl, ?_⟩
    exact pn_back (e + 1) (by first | omega | (dsimp only; omega)) (by omega) (sl 1 rfl (sl 2 rfl (sl 4 rfl (sl 5 rfl (sl 10 rfl (sl 11 rfl sn)))))) (el 10 rfl (el 11 rfl (ew 112 rfl (box_q (q_qb rfl (hQ (e + 1) (by omega)))) en)))
  · refine tri_exit ?_
    repeat (first | refine pn_then ?_ | refine pn_oth (by decide) ?_)
    refine pn_ex ?_
    have hes : e = s.length := by omega
    refine nx (sl 4 rfl (sl 5 rfl sn)) (el 10 rfl (el 11 rfl (el 112 rfl en))) ?_
    refine tri_seq ?_
    refine tri_reg mixed hcx ?_ _ _
    refine ld rfl rfl tyQ rfl ?_
    refine st rfl rfl rfl tyQ rfl ?_
    refine ⟨by kernel_rfl, ?_⟩
    refine nx (sl 4 rfl sn) (el 10 rfl (el 11 rfl (el 112 rfl en))) ?_
    refine tri_ret ?_
    repeat (first | refine pn_thenr ?_ | refine pn_blkr ?_)
    exact ret1 hcx rfl (rv_cell (c' := cx) (n := 0) rfl rfl tyQ rfl) (q_eq (by rw [hes]) (Nat.le_refl _)) en

theorem t_fits {D : List Int} {L : List (List Int)} {ts : List (Int × Int)} {a b : Int} {n k : Nat} (h : TrS D L ts n k) {s : List Int} (hb : 0 < b) (ha : 0 ≤ a) {m : Nat} (hs : s.length ≤ m) (hsl : s.length ≤ 1048576) : Fn Tryz.prog 59 [T.Tr D L ts a b k, T.l (cZi k) s, T.c (.int .i64 (m : Int))] [] [] [] (T.c (.int .i64 0)) := by
  refine fn_of Tryz.func59 rfl (by show 3 ≤ 17; decide) fun cx hcx => ?_
  refine tri_sub (sl 0 rfl (sl 1 rfl (sl 2 rfl sn))) en ?_
  refine tri_seq ?_
  refine tri_reg mixed hcx ?_ _ _
  refine bxs 10 rfl ?_
  refine asg rfl ?_
  refine ⟨by kernel_rfl, ?_⟩
  refine nx (sl 1 rfl (sl 2 rfl (sl 3 rfl sn))) (el 10 rfl en) ?_
  refine tri_seq ?_
  refine tri_seq ?_
  refine tri_reg mixed hcx ?_ _ _
  refine ld rfl rfl tyTr rfl ?_
  refine ca rfl (h := t_Valid h hb ha) (hn := ?_)
  refine asg rfl ?_
  refine ⟨by kernel_rfl, ?_⟩
  refine nx (sl 1 rfl (sl 2 rfl (sl 7 rfl sn))) (el 10 rfl en) ?_
  refine tri_seq ?_
  refine tri_reg mixed hcx ?_ _ _
  refine mv rfl ?_
  refine cne rfl rfl (decide_eq_false (by omega)) ?_
  refine ⟨by kernel_rfl, ?_⟩
  refine nx (sl 1 rfl (sl 2 rfl (sl 7 rfl (sl 11 rfl sn)))) (el 10 rfl en) ?_
  refine tri_false rfl rfl ?_
  refine tri_skip ?_
  refine nx (sl 1 rfl (sl 2 rfl sn)) (el 10 rfl en) ?_
  refine tri_seq ?_
  refine tri_seq ?_
  refine tri_reg mixed hcx ?_ _ _
  refine mv rfl ?_
  refine ln slZs rfl ?_
  refine mv rfl ?_
  refine cgt rfl rfl (decide_eq_false (by omega)) ?_
  refine ⟨by kernel_rfl, ?_⟩
  refine nx (sl 16 rfl sn) (el 10 rfl en) ?_
  refine tri_false rfl rfl ?_
  refine tri_skip ?_
  refine nx sn (el 10 rfl en) ?_
  refine tri_seq ?_
  refine tri_reg mixed hcx ?_ _ _
  refine asg rfl ?_
  refine ⟨by kernel_rfl, ?_⟩
  refine nx (sl 6 rfl sn) (el 10 rfl en) ?_
  refine tri_ret ?_
  repeat (first | refine pn_thenr ?_ | refine pn_blkr ?_)
  exact ret1 hcx rfl (rv_tmp rfl) (.refl _) en

theorem t_Part {D : List Int} {L : List (List Int)} {ts : List (Int × Int)} {a b : Int} {n k : Nat} (h : TrS D L ts n k) {s : List Int} (hb : 0 < b) (ha : 0 ≤ a) (hs : s.length ≤ n) : Fn Tryz.prog 16 [T.Tr D L ts a b k, T.l (cZi k) s] [] [] [] (T.tup [T.Q (ptT D L ts s (n - 1) s.length) 15100000000, T.c (.int .i64 0)]) := by
  refine fn_of Tryz.func16 rfl (by show 2 ≤ 21; decide) fun cx hcx => ?_
  refine tri_sub (sl 0 rfl (sl 1 rfl sn)) en ?_
  have hn12 := h.twelve
  have hkk := h.hk
  have hlL := h.len
  have hn0 := h.pos
  refine tri_seq ?_
  refine tri_reg mixed hcx ?_ _ _
  refine bxs 10 rfl ?_
  refine nw 11 zeQ ?_
  refine asg rfl ?_
  refine ⟨by kernel_rfl, ?_⟩
  refine nx (sl 1 rfl (sl 2 rfl (sl 4 rfl sn))) (el 10 rfl (el 11 rfl en)) ?_
  refine tri_seq ?_
  refine tri_seq ?_
  refine tri_reg mixed hcx ?_ _ _
  refine ld rfl rfl tyTr rfl ?_
  refine mv rfl ?_
  refine fa rfl fTrG 0 ?_
  refine fa rfl fL 1 ?_
  refine ld rfl rfl tyZss rfl ?_
  refine ln slZss rfl ?_
  refine ca rfl (h := t_fits h hb ha (m := L.length) (by omega) (by omega)) (hn := ?_)
  refine asg rfl ?_
  refine ⟨by kernel_rfl, ?_⟩
  refine nx (sl 1 rfl (sl 2 rfl (sl 4 rfl (sl 6 rfl sn)))) (el 10 rfl (el 11 rfl en)) ?_
  refine tri_seq ?_
  refine tri_reg mixed hcx ?_ _ _
  refine mv rfl ?_
  refine cne rfl rfl (decide_eq_false (by omega)) ?_
  refine ⟨by kernel_rfl, ?_⟩
  refine nx (sl 1 rfl (sl 2 rfl (sl 4 rfl (sl 6 rfl (sl 15 rfl sn))))) (el 10 rfl (el 11 rfl en)) ?_
  refine tri_false rfl rfl ?_
  refine tri_skip ?_
  refine nx (sl 1 rfl (sl 2 rfl (sl 4 rfl sn))) (el 10 rfl (el 11 rfl en)) ?_
  refine tri_seq ?_
  refine tri_reg mixed hcx ?_ _ _
  refine ld rfl rfl tyTr rfl ?_
  refine mv rfl ?_
  refine ca rfl (h := t_part h (by omega)) (hn := ?_)
  refine st rfl rfl rfl tyQ rfl ?_
  refine asg rfl ?_
  refine ⟨by kernel_rfl, ?_⟩
  refine nx (sl 4 rfl (sl 5 rfl sn)) (el 10 rfl (el 11 rfl en)) ?_
  refine tri_ret ?_
  repeat (first | refine pn_thenr ?_ | refine pn_blkr ?_)
  exact ret2 hcx rfl (rv_cell (c' := cx) (n := 0) rfl rfl tyQ rfl) (rv_tmp rfl) (.refl _) en

-- left out
end Go.Proofs.YtekghdfbhbhigaaGreat.V
/- A logic of calls: a range over a function. -/
set_option linter.unusedVariables false
set_option linter.unusedSimpArgs false
namespace Go.Proofs.YtekghdfbhbhigaaGreat.V
open Go.RowKit

theorem lkE_cons (e : Nat) (X : Option Ent) (E : List (Nat × Option Ent)) (f : Nat) : lkE ((e, X) :: E) f = if e = f then X else lkE E f := by
  unfold lkE
  rw [lk_cons]
  by_cases h : e = f
  · rw [if_pos h, if_pos h]; rfl
  · rw [if_neg h, if_neg h]
theorem Tr.weak {C D : Nat → Prop} {u w u' w' : World} (h : Tr C u w u' w') (hc : ∀ k, C k → D k) : Tr D u w u' w' :=
  ⟨h.os, h.tape, h.output, h.size, fun k hk hd => h.block k hk (fun h' => hd (hc k h')), h.old, h.sub, fun k hk hd => h.dead k hk (fun h' => hd (hc k h'))⟩
/-- Memory of another's, without names. -/
structure Ent0 where
  hold : World → World → (Nat → Prop) → Prop
  mono : ∀ {u u' w F}, Sub u u' → hold u w F → hold u' w F
  loc : ∀ {u w w' F}, (∀ k, F k → w'.heap[k]? = w.heap[k]?) → hold u w F → hold u w' F
def Ent.ab (z : Ent0) : Ent := ⟨[], fun _ u w _ F => z.hold u w F, fun hs h => z.mono hs h, fun _ h => h, fun hl h => z.loc hl h⟩
/-- One block that holds no cells. -/
def Ent.ob (k : Nat) (o : Obj) : Ent := ⟨[], fun _ _ w _ F => (∀ q, F q ↔ q = k) ∧ w.heap[k]? = some o, fun _ h => h, fun _ h => h, fun hl h => ⟨h.1, (hl k ((h.1 k).2 rfl)).trans h.2⟩⟩
/-- A call of yield: what the other party does in between. -/
def YOk (P : Program) (l : Nat) (X : T) (z : Ent0) (b : Bool) (z' : Ent0) : Prop := ∀ v u w (F : Nat → Prop), Sub u w → X.rep B0 u v → z.hold u w F → (∀ k, F k → Dead u k ∧ k < w.heap.size) →
  ∃ fn tmps ac bd, (Instr.yield l #[v]).run P w = .ok (.round l fn tmps ac bd) w ∧ RoundIn Fence.wide 0 P l fn tmps ac bd w fun e w' => e = .returned (.bool b) ∧ ∃ u' F', Tr F u w u' w' ∧ z'.hold u' w' F' ∧ (∀ k, F' k → Dead u' k ∧ k < w'.heap.size) ∧ ∀ k, F' k → F k ∨ w.heap.size ≤ k
section
variable {P : Program} {ops : Array Oper} {fin : List OpS → List (Nat × T) → List (Nat × Option Ent) → Prop} {r : List Oper} {H : List OpS} {g : List (Nat × T)} {E : List (Nat × Option Ent)} {o : Oper}
variable {t : Option Nat} {ty : TypeId} {ps : String} {af : Array Edge} {gd : Option (Nat × Bool)} {x y : Operand} {X Y : T} {e : Nat}
/-- yield is called. -/
theorem yd {l : Nat} {tys : Array TypeId} {z z' : Ent0} {b : Bool} (hX : envl g x = some (T.c (.func (.yield l) #[] #[]))) (hY : envl g y = some Y) (hE : lkE E e = some (Ent.ab z)) (h : YOk P l X z b z') (hl : Y.le X)
    (hn : J P ops fin r (⟨[], [e], [(e, Ent.ab z')], [], T.c (.bool b)⟩ :: H) (putg t (T.c (.bool b)) g) ((e, some (Ent.ab z')) :: E)) (h0 : X.ns = [] := by rfl)
    (hg : GuardIs ops g ⟨t, .call ⟨.value x, #[y], tys⟩, ty, ps, af, gd⟩ true := by exact gd0) : J P ops fin (⟨t, .call ⟨.value x, #[y], tys⟩, ty, ps, af, gd⟩ :: r) H g E :=
  j_set hE hg (fun ρ β u w F hs he hH => by
    have hx : ρ x = .func (.yield l) #[] #[] := he x (show x ∈ (#[x] ++ #[y] : Array Operand) from by simp) _ hX
    have hy := he y (show y ∈ (#[x] ++ #[y] : Array Operand) from by simp) _ hY
    obtain ⟨fn, tmps, ac, bd, h1, h2⟩ := h (ρ y) u w (F e) hs (X.ext (fun n hn => by rw [h0] at hn; cases hn) (hl _ _ _ hy)) (hH.hold e _ lk1_same) (fun k hk => hH.dead e _ k lk1_same hk)
    unfold Res
    rw [show (execOp ρ ⟨t, .call ⟨.value x, #[y], tys⟩, ty, ps, af, gd⟩).run P w = .ok (.round l fn tmps ac bd) w from by
      simp only [execOp, resolve, hx, Deferred.ofValue, Sem.run_bind, Sem.run_pure, Result.andThen_ok, invoke, List.map_toArray, List.map_cons, List.map_nil]
      simpa using h1]
    refine h2.mono fun e' w' ⟨he', u', F', ht, hz, hd, hf⟩ => ⟨_, he', u', β, fun _ => F', fun _ _ => rfl, ht.weak (fun k hk => ⟨e, List.mem_cons_self, hk⟩), hold1 hz hd, fun f X k hf' hk => ?_, rfl⟩
    rcases hf k hk with h | h
    · exact .inl ⟨e, List.mem_cons_self, h⟩
    · exact .inr h) hn
end
section
variable {c : Ctx} {n : Nat} {g : List (Nat × T)} {E : List (Nat × Option Ent)} {a : Act} {w : World}
theorem cell_put {w : World} {k : Nat} {o : Obj} {p : Addr} (h : p.block ≠ k) : (w.putObj k o).cell? p = w.cell? p := World.cell?_of_block (World.putObj_heap_other h)
/-- A block that holds no cells is turned. -/
theorem InSt.putOb {k : Nat} {o : Obj} (e : Nat) (hE : lkE E e = some (Ent.ob k o)) (h : InSt c n g E a w) (o' : Obj) : InSt c n g ((e, some (Ent.ob k o')) :: E) a (w.putObj k o') := by
  obtain ⟨β, u, F, h1, h2, h3, h4, h5, h6, h7⟩ := h
  obtain ⟨k1, k2⟩ := h4.hold e _ hE
  have hk : F e k := (k1 k).2 rfl
  obtain ⟨d1, d2⟩ := h4.dead e _ k hE hk
  have hlk := lkE_cons e (some (Ent.ob k o')) E
  have cas : ∀ f X, lkE ((e, some (Ent.ob k o')) :: E) f = some X → (f = e ∧ X = Ent.ob k o') ∨ (f ≠ e ∧ lkE E f = some X) := fun f X hX => by
    rw [hlk] at hX
    by_cases hf : e = f
    · rw [if_pos hf] at hX; cases hX; exact .inl ⟨hf.symm, rfl⟩
    · rw [if_neg hf] at hX; exact .inr ⟨Ne.symm hf, hX⟩
  have old : ∀ f X, lkE ((e, some (Ent.ob k o')) :: E) f = some X → ∃ Y, lkE E f = some Y := fun f X hX => by
    rcases cas f X hX with ⟨rfl, _⟩ | ⟨_, h⟩
    · exact ⟨_, hE⟩
    · exact ⟨_, h⟩
  refine ⟨β, u, F, h1, h2, h3, ⟨fun f X hX => ?_, fun f X q hX hq => ?_, fun f f' X Y q hX hY hne hq => ?_⟩, ⟨h5.os, h5.tape, h5.output, by simpa using h5.size, fun b hb hc => ?_, h5.old, fun p v hp => ?_, h5.dead⟩, fun f X q hX hq => ?_, h7⟩
  · rcases cas f X hX with ⟨rfl, rfl⟩ | ⟨hne, hX'⟩
    · exact ⟨k1, World.putObj_heap_same d2⟩
    · exact X.loc (fun q hq => World.putObj_heap_other (fun e1 => h4.apart f e X _ q hX' hE hne hq (e1 ▸ hk))) (h4.hold f X hX')
  · obtain ⟨Y, hY⟩ := old f X hX
    have := h4.dead f Y q hY hq
    exact ⟨this.1, by simpa using this.2⟩
  · obtain ⟨Z, hZ⟩ := old f X hX
    obtain ⟨Z', hZ'⟩ := old f' Y hY
    exact h4.apart f f' Z Z' q hZ hZ' hne hq
  · rw [World.putObj_heap_other, h5.block b hb hc]
    rintro rfl
    rcases h6 e _ b hE hk with h | h
    · exact hc h
    · omega
  · by_cases hb : p.block = k
    · rw [d1 p hb] at hp; cases hp
    · rw [cell_put hb]; exact h5.sub p v hp
  · obtain ⟨Y, hY⟩ := old f X hX
    exact h6 f Y q hY hq
/-- A block that holds no cells is laid. -/
theorem InSt.newOb (e : Nat) (o : Obj) (h : InSt c n g E a w) : InSt c n g ((e, some (Ent.ob w.heap.size o)) :: E) a (w.alloc o) := by
  obtain ⟨β, u, F, h1, h2, h3, h4, h5, h6, h7⟩ := h
  have hs := h5.sub
  have hlk := lkE_cons e (some (Ent.ob w.heap.size o)) E
  have cas : ∀ f X, lkE ((e, some (Ent.ob w.heap.size o)) :: E) f = some X → (f = e ∧ X = Ent.ob w.heap.size o) ∨ (f ≠ e ∧ lkE E f = some X) := fun f X hX => by
    rw [hlk] at hX
    by_cases hf : e = f
    · rw [if_pos hf] at hX; cases hX; exact .inl ⟨hf.symm, rfl⟩
    · rw [if_neg hf] at hX; exact .inr ⟨Ne.symm hf, hX⟩
  have ht := tr_alloc (C := fun _ => False) hs o
  refine ⟨β, u, fun f q => if f = e then q = w.heap.size else F f q, h1, h2, h3, ⟨fun f X hX => ?_, fun f X q hX hq => ?_, fun f f' X Y q hX hY hne hq => ?_⟩, h5.trans ht (fun _ h => h.elim), fun f X q hX hq => ?_, h7⟩
  · rcases cas f X hX with ⟨rfl, rfl⟩ | ⟨hne, hX'⟩
    · simp only [if_true]
      exact ⟨fun q => Iff.rfl, World.alloc_heap_new w o⟩
    · simp only [if_neg hne]
      exact X.loc (fun q hq => ht.block q (h4.dead f X q hX' hq).2 (fun h => h)) (h4.hold f X hX')
  · rcases cas f X hX with ⟨rfl, rfl⟩ | ⟨hne, hX'⟩
    · simp only [if_true] at hq
      subst hq
      exact ⟨dead_new hs (Nat.le_refl _), by simp⟩
    · simp only [if_neg hne] at hq
      have := h4.dead f X q hX' hq
      exact ⟨this.1, Nat.lt_of_lt_of_le this.2 ht.size⟩
  · rcases cas f X hX with ⟨rfl, rfl⟩ | ⟨hf, hX'⟩ <;> rcases cas f' Y hY with ⟨rfl, rfl⟩ | ⟨hf', hY'⟩
    · exact absurd rfl hne
    · simp only [if_true, if_neg hf'] at hq ⊢
      intro h
      have := (h4.dead f' Y q hY' h).2
      omega
    · simp only [if_true, if_neg hf] at hq ⊢
      intro h
      have := (h4.dead f X q hX' hq).2
      omega
    · simp only [if_neg hf, if_neg hf'] at hq ⊢
      exact h4.apart f f' X Y q hX' hY' hne hq
  · rcases cas f X hX with ⟨rfl, rfl⟩ | ⟨hne, hX'⟩
    · simp only [if_true] at hq
      subst hq
      exact .inr h5.size
    · simp only [if_neg hne] at hq
      exact h6 f X q hX' hq
end
/-- One's own, laid by for the time that another's code runs. -/
def Pk (β0 : Env) (S : List Nat) (tmps : Array Value) (G : List (Nat × T)) (M : List (Nat × Option Ent)) : Ent0 where
  hold u w F := ∃ (β : Env) (Fs : FP), (∀ e ∈ S, β e = β0 e) ∧ (∀ t X, lk G t = some X → ∃ v, tmps[t]? = some v ∧ X.rep β u v) ∧ (∀ e X, lkE M e = some X → X.hold β u w (β e) (Fs e)) ∧
    (∀ e f X Y k, lkE M e = some X → lkE M f = some Y → e ≠ f → Fs e k → ¬ Fs f k) ∧ ∀ k, F k ↔ ∃ e X, lkE M e = some X ∧ Fs e k
  mono := fun hs ⟨β, Fs, h1, h2, h3, h4, h5⟩ => ⟨β, Fs, h1, fun t X h => let ⟨v, k1, k2⟩ := h2 t X h; ⟨v, k1, X.mono hs k2⟩, fun e X h => X.mono hs (h3 e X h), h4, h5⟩
  loc := fun hl ⟨β, Fs, h1, h2, h3, h4, h5⟩ => ⟨β, Fs, h1, h2, fun e X h => X.loc (fun k hk => hl k ((h5 k).2 ⟨e, X, h, hk⟩)) (h3 e X h), h4, h5⟩
/-- A round begins. -/
def BR (P : Program) (l : Nat) (bd : Code) (r : Option Nat) (Q : Exit → Act → World → Prop) (a : Act) (w : World) : Prop := ∃ w2, (Instr.beginRound l).run P w = .ok () w2 ∧ bd.wpIn (Fc r) 0 P Q a w2
/-- How a round may end: by which jump; in which state. -/
def RQ (c : Ctx) (n : Nat) (pd : Option Code) (M : List (Nat × Option Ent)) (e : Exit) (a : Act) (w : World) : Prop :=
  (match e with | .normal => pd = none | .ret => pd = some .ret | .exit id => pd = some (.exit id) | _ => False) ∧ InSt c n [] M a w
def RecO (r : Loop) (s : LoopState) (pd : Option Code) : Obj := .loop { r with state := s, pending := pd }
section
variable {P : Program} {c : Ctx} {n : Nat} {g g' : List (Nat × T)} {E E' : List (Nat × Option Ent)} {Q : Exit → Act → World → Prop}
theorem nx_begin {l : Nat} {r : Loop} {bd : Code} (hrd : c.rd = some l) (hE0 : lkE E 702 = some (Ent.ob l (RecO r .ready none))) (hg : SubG g' g) (hE : SubE E' ((702, some (Ent.ob l (RecO r .busy none))) :: E)) (h : Tri P bd Q c n g' E') {Q' : Exit → Act → World → Prop} : PN c n (Exit.then (BR P l bd (some l) Q) Q' .normal) g E := fun a w hS => by
  have hr : w.heap[l]? = some (RecO r .ready none) := by
    obtain ⟨β, u, F, h1, h2, h3, h4, h5, h6, h7⟩ := hS
    exact (h4.hold 702 (Ent.ob l (RecO r .ready none)) hE0).2
  exact ⟨_, run_beginRound hr rfl, by rw [← hrd]; exact h a _ ((hS.putOb 702 hE0 (RecO r .busy none)).sub hg hE)⟩
theorem rq_go {M : List (Nat × Option Ent)} (hE : SubE M E) : PN c n (RQ c n none M .normal) g E := fun a w hS => ⟨rfl, hS.sub sn hE⟩
theorem rq_ret {M : List (Nat × Option Ent)} (hE : SubE M E) : PN c n (RQ c n (some .ret) M .ret) g E := fun a w hS => ⟨rfl, hS.sub sn hE⟩
/-- What is one's own becomes another's concern. -/
theorem pk_of {β β0 : Env} {S : List Nat} {tmps : Array Value} {G : List (Nat × T)} {M : List (Nat × Option Ent)} {u w : World} {Fs : FP} (h1 : ∀ e ∈ S, β e = β0 e) (h2 : ∀ t X, lk G t = some X → ∃ v, tmps[t]? = some v ∧ X.rep β u v) (h : Hold β u w Fs (lkE M)) :
    (Pk β0 S tmps G M).hold u w (fun k => ∃ e X, lkE M e = some X ∧ Fs e k) := ⟨β, Fs, h1, h2, h.hold, h.apart, fun k => Iff.rfl⟩
def dfr : Obj := .deferred (some [])
def st2 (pd : Option Code) : LoopState := if pd.isNone then .ready else .done
/-- A round: the loop's own side. -/
theorem yok_round {β0 : Env} {S : List Nat} {tmps : Array Value} {G : List (Nat × T)} {M M' : List (Nat × Option Ent)} {l p : Nat} {r : Loop} {X : T} {pd : Option Code} (hps : r.params = #[p]) (ht : r.tmps = tmps) (hn : tmps.size = n) (hp : p < n) (h0 : X.ns = []) (hS : ∀ e ∈ nsOf G, e ∈ S)
    (h : ∀ c : Ctx, c.rd = some l → c.df = [] → c.I = S → Tri P r.assign (Exit.then (BR P l r.body (some l) (RQ c n pd ((702, some (Ent.ob l (RecO r .busy none))) :: M'))) (fun _ _ _ => False)) c n ((p, X) :: G) ((702, some (Ent.ob l (RecO r .ready none))) :: M)) :
    YOk P l X (Pk β0 S tmps G ((702, some (Ent.ob l (RecO r .ready none))) :: M)) pd.isNone (Pk β0 S tmps G ((702, some (Ent.ob l (RecO r (st2 pd) pd))) :: M')) := fun v u w F hs hv ⟨β, Fs, k1, k2, k3, k4, k5⟩ hd => by
  have hr : w.heap[l]? = some (RecO r .ready none) := (k3 702 (Ent.ob l (RecO r .ready none)) (by rw [lkE_cons, if_pos rfl])).2
  refine ⟨_, _, _, _, run_yield hr (by simp [hps]), roundIn_of_wpIn trivial ?_⟩
  let c : Ctx := ⟨w, u, F, β, S, [], some l⟩
  have hst : InSt c n ((p, X) :: G) ((702, some (Ent.ob l (RecO r .ready none))) :: M) { tmps := tmps.setIfInBounds p v, defers := [] } w := by
    refine ⟨β, u, Fs, rfl, by simpa using hn, fun t Y hY => ?_, ⟨k3, fun e Y k hY hk => hd k ((k5 k).2 ⟨e, Y, hY, hk⟩), k4⟩, Tr.refl hs, fun e Y k hY hk => .inl ((k5 k).2 ⟨e, Y, hY, hk⟩), fun _ _ => rfl⟩
    rw [lk_cons] at hY
    by_cases ht : p = t
    · subst ht
      rw [if_pos rfl] at hY
      cases hY
      exact ⟨v, by simp [hn, hp], X.ext (fun e he => by rw [h0] at he; cases he) hv⟩
    · rw [if_neg ht] at hY
      obtain ⟨y, q1, q2⟩ := k2 t Y hY
      exact ⟨y, by rw [Array.getElem?_setIfInBounds_ne ht]; exact q1, q2⟩
  have hw := h c rfl rfl rfl _ w hst
  have e1 : ((r.params.zip #[v]).foldl (fun tmps (t, a) => tmps.setIfInBounds t a) r.tmps) = tmps.setIfInBounds p v := by rw [hps, ht]; simp
  show r.assign.wpIn _ 0 P _ { tmps := ((r.params.zip #[v]).foldl (fun tmps (t, a) => tmps.setIfInBounds t a) r.tmps), defers := [] } w
  rw [e1]
  refine wpIn_mono hw fun e a1 w1 hq => ?_
  cases e with
  | normal =>
    obtain ⟨w2, hb, hbd⟩ := hq
    refine ⟨w2, hb, wpIn_mono hbd fun e a2 w3 hq => ?_⟩
    obtain ⟨he, hS2⟩ := hq
    have hr2 : w3.heap[l]? = some (RecO r .busy none) := by
      obtain ⟨β, u, F, h1, h2, h3, h4, h5, h6, h7⟩ := hS2
      exact (h4.hold 702 (Ent.ob l (RecO r .busy none)) (by rw [lkE_cons, if_pos rfl])).2
    have fin : ∀ jp, jp = pd → ∃ v w', (Instr.endRound l jp).run P w3 = .ok v w' ∧ ((Ending.returned v) = .returned (.bool pd.isNone) ∧ ∃ u' F', Tr F u w u' w' ∧ (Pk β0 S tmps G ((702, some (Ent.ob l (RecO r (st2 pd) pd))) :: M')).hold u' w' F' ∧ (∀ k, F' k → Dead u' k ∧ k < w'.heap.size) ∧ ∀ k, F' k → F k ∨ w.heap.size ≤ k) := fun jp hjp => by
      subst hjp
      refine ⟨_, _, run_endRound jp hr2, rfl, ?_⟩
      have hS3 := hS2.putOb 702 (by rw [lkE_cons, if_pos rfl]) (RecO r (st2 jp) jp)
      obtain ⟨β', u', F', g1, g2, g3, g4, g5, g6, g7⟩ := hS3
      have hl : ∀ e X, lkE ((702, some (Ent.ob l (RecO r (st2 jp) jp))) :: M') e = some X → lkE ((702, some (Ent.ob l (RecO r (st2 jp) jp))) :: (702, some (Ent.ob l (RecO r .busy none))) :: M') e = some X := fun e X h => by
        rw [lkE_cons] at h ⊢
        by_cases h7 : 702 = e
        · rw [if_pos h7] at h ⊢; exact h
        · rw [if_neg h7] at h ⊢; rw [lkE_cons, if_neg h7]; exact h
      refine ⟨u', fun k => ∃ e X, lkE ((702, some (Ent.ob l (RecO r (st2 jp) jp))) :: M') e = some X ∧ F' e k, g5, pk_of (fun e he => (g7 e he).trans (k1 e he)) (fun t Y hY => ?_) ⟨fun e X h => g4.hold e X (hl e X h), fun e X k h hk => g4.dead e X k (hl e X h) hk, fun e f X Y k h h' hne hk => g4.apart e f X Y k (hl e X h) (hl f Y h') hne hk⟩, fun k ⟨e, X, h, hk⟩ => g4.dead e X k (hl e X h) hk, fun k ⟨e, X, h, hk⟩ => g6 e X k (hl e X h) hk⟩
      obtain ⟨y, q1, q2⟩ := k2 t Y hY
      exact ⟨y, q1, Y.mono g5.old (Y.ext (fun e he => g7 e (hS e (lk_base hY e he))) q2)⟩
    cases e with
    | normal => exact fin none he.symm
    | ret => exact fin (some .ret) he.symm
    | exit id => exact fin (some (.exit id)) he.symm
    | goto t => exact he.elim
    | panic ch => exact he.elim
    | outgrown => exact he.elim
  | _ => exact hq.elim
theorem InSt.congr {a : Act} {w : World} (h : InSt c n g E a w) (he : ∀ e, lkE E' e = lkE E e) : InSt c n g E' a w := by
  unfold InSt at *
  rw [show lkE E' = lkE E from funext he]
  exact h
def Ctx.put (c : Ctx) (D : Nat) : Ctx := { c with df := { target := .collected D, args := #[] } :: c.df }
def pdo {ι κ : Type} (pd : κ → Code) : ι ⊕ κ → Option Code
  | .inl _ => none
  | .inr q => some (pd q)
def isL {ι κ : Type} : ι ⊕ κ → Bool
  | .inl _ => true
  | .inr _ => false
def Done {ι κ : Type} (P : Program) (Q : Exit → Act → World → Prop) (c : Ctx) (n : Nat) (g : List (Nat × T)) (M : ι → List (Nat × Option Ent)) (N : κ → List (Nat × Option Ent)) (pd : κ → Code) : ι ⊕ κ → List (Nat × Option Ent) → Prop
  | .inl i, E => PN c n (Q .normal) g (E ++ M i)
  | .inr q, E => Tri P (pd q) Q c n g (E ++ N q)
theorem done_go {ι κ : Type} {M : ι → List (Nat × Option Ent)} {N : κ → List (Nat × Option Ent)} {pd : κ → Code} {i : ι} (h : PN c n (Q .normal) g (E ++ M i)) : Done P Q c n g M N pd (.inl i) E := h
theorem done_stop {ι κ : Type} {M : ι → List (Nat × Option Ent)} {N : κ → List (Nat × Option Ent)} {pd : κ → Code} {q : κ} (h : Tri P (pd q) Q c n g (E ++ N q)) : Done P Q c n g M N pd (.inr q) E := h
/-- The loop: what goes on between the rounds; by whom the rounds are called. -/
theorem tri_range {ι κ : Type} {f : FuncId} {Caps : List T} {t p : Nat} {ac bd : Code} {I : List Nat} {R : T} (M : ι → List (Nat × Option Ent)) (N : κ → List (Nat × Option Ent)) (pd : κ → Code) (stp : ι → T → ι ⊕ κ → Prop) (i0 : ι) (fin : ι ⊕ κ)
    (hrd : c.rd = none) (hI : c.I = I) (hX : lk g t = some (T.fn f Caps)) (hen : Enters P f) (hp : p < n) (hg : SubG g' g) (hE : SubE (M i0) ((702, none) :: (701, none) :: E))
    (hit : ∀ (l : Nat) (Z : ι → Ent0) (Y : κ → Ent0), (∀ i X o, stp i X o → YOk P l X (Z i) (isL o) (Sum.elim Z Y o)) → Fn P f (T.c (.func (.yield l) #[] #[]) :: Caps) [(700, Ent.ab (Z i0))] [(700, Ent.ab (Sum.elim Z Y fin))] [] R)
    (hns : ∀ i X o, stp i X o → X.ns = [])
    (hbody : ∀ (l D : Nat) (r : Loop) (c' : Ctx), c'.rd = some l → c'.df = [] → c'.I = I ++ nsOf g' → ∀ i X o, stp i X o → Tri P ac (Exit.then (BR P l bd (some l) (RQ c' n (pdo pd o) ((702, some (Ent.ob l (RecO r .busy none))) :: (701, some (Ent.ob D dfr)) :: Sum.elim M N o))) (fun _ _ _ => False)) c' n ((p, X) :: g') ((702, some (Ent.ob l (RecO r .ready none))) :: (701, some (Ent.ob D dfr)) :: M i))
    (hdone : ∀ (l D : Nat) (o : Obj), Done P Q (c.put D) n g' M N pd fin [(702, some (Ent.ob l o)), (701, some (Ent.ob D dfr))]) : Tri P (.rangeFunc (.tmp t) #[p] ac bd) Q c n g E := fun a w hS => by
  have hF : Fc c.rd = Fence.wide := by rw [hrd]; rfl
  show (Code.rangeFunc (.tmp t) #[p] ac bd).wpIn (Fc c.rd) 0 P Q a w
  rw [hF]
  refine wpIn_rangeFunc fun fn _ => ?_
  let r : Loop := { state := .ready, pending := none, fn := fn, tmps := a.tmps, params := #[p], assign := ac, body := bd, defers := w.heap.size }
  have hS1 := (hS.newOb 701 dfr).newOb 702 (RecO r .ready none)
  obtain ⟨D, hD⟩ : ∃ D, w.heap.size = D := ⟨_, rfl⟩
  obtain ⟨l, hl⟩ : ∃ l, (w.alloc dfr).heap.size = l := ⟨_, rfl⟩
  rw [hD, hl] at hS1
  obtain ⟨w1, hw1⟩ : ∃ w1, (w.alloc dfr).alloc (RecO r .ready none) = w1 := ⟨_, rfl⟩
  rw [hw1] at hS1
  obtain ⟨β, u, F, h1, h2, h3, h4, h5, h6, h7⟩ := hS1
  obtain ⟨v, hv1, cs, hv2, hv3⟩ := h3 t _ hX
  let ZE : ι ⊕ κ → List (Nat × Option Ent) := fun o => (702, some (Ent.ob l (RecO r (st2 (pdo pd o)) (pdo pd o)))) :: (701, some (Ent.ob D dfr)) :: Sum.elim M N o
  let Z0 : ι ⊕ κ → Ent0 := fun o => Pk β (I ++ nsOf g') a.tmps g' (ZE o)
  have hyok : ∀ i X o, stp i X o → YOk P l X (Z0 (.inl i)) (isL o) (Sum.elim (fun i => Z0 (.inl i)) (fun q => Z0 (.inr q)) o) := fun i X o hst => by
    have := yok_round (P := P) (n := n) (β0 := β) (S := I ++ nsOf g') (tmps := a.tmps) (G := g') (M := (701, some (Ent.ob D dfr)) :: M i) (M' := (701, some (Ent.ob D dfr)) :: Sum.elim M N o) (l := l) (p := p) (r := r) (X := X) (pd := pdo pd o) rfl rfl h2 hp (hns i X o hst) (fun e he => List.mem_append_right _ he) (fun c' q1 q2 q3 => hbody l D r c' q1 q2 q3 i X o hst)
    cases o with
    | inl i' => exact this
    | inr q => exact this
  have hcall := hit l (fun i => Z0 (.inl i)) (fun q => Z0 (.inr q)) hyok
  have hlk : ∀ e X, lkE (ZE (.inl i0)) e = some X → ∃ Y, lkE ((702, some (Ent.ob l (RecO r .ready none))) :: (701, some (Ent.ob D dfr)) :: E) e = some Y ∧ Y.le X := fun e X h => by
    have h' : lkE ((702, some (Ent.ob l (RecO r .ready none))) :: (701, some (Ent.ob D dfr)) :: M i0) e = some X := h
    rw [lkE_cons] at h' ⊢
    by_cases q : 702 = e
    · rw [if_pos q] at h' ⊢; exact ⟨_, h', .refl _⟩
    · rw [if_neg q, lkE_cons] at h' ⊢
      by_cases q2 : 701 = e
      · rw [if_pos q2] at h' ⊢; exact ⟨_, h', .refl _⟩
      · rw [if_neg q2] at h' ⊢
        obtain ⟨Y, y1, y2⟩ := subE_lk hE h'
        rw [lkE_cons, if_neg q, lkE_cons, if_neg q2] at y1
        exact ⟨Y, y1, y2⟩
  have hold0 : Hold β u w1 F (lkE (ZE (.inl i0))) := ⟨fun e X h => by obtain ⟨Y, y1, y2⟩ := hlk e X h; exact y2 _ _ _ _ _ (h4.hold e Y y1), fun e X k h hk => by obtain ⟨Y, y1, y2⟩ := hlk e X h; exact h4.dead e Y k y1 hk,
    fun e f X Y k h h' hne hk => by obtain ⟨X1, y1, _⟩ := hlk e X h; obtain ⟨Y1, y2, _⟩ := hlk f Y h'; exact h4.apart e f X1 Y1 k y1 y2 hne hk⟩
  have hg3 : ∀ t X, lk g' t = some X → ∃ v, a.tmps[t]? = some v ∧ X.rep β u v := fun t X h => by
    obtain ⟨Y, y1, y2⟩ := subG_lk hg h
    obtain ⟨v, y3, y4⟩ := h3 t Y y1
    exact ⟨v, y3, y2 _ _ _ y4⟩
  have hpk := pk_of (S := I ++ nsOf g') (β0 := β) (fun _ _ => rfl) hg3 hold0
  have hfz : ∀ k, (∃ e X, lkE (ZE (.inl i0)) e = some X ∧ F e k) → c.own k ∨ c.w0.heap.size ≤ k := fun k ⟨e, X, h, hk⟩ => by
    obtain ⟨Y, y1, _⟩ := hlk e X h
    exact h6 e Y k y1 hk
  have hrun := hcall (.func (.yield l) #[] #[] :: cs) β u w1 (fun _ k => ∃ e X, lkE (ZE (.inl i0)) e = some X ∧ F e k) h5.sub ⟨rfl, hv3⟩ (hold1 (e := 700) (X := Ent.ab (Z0 (.inl i0))) hpk (fun k ⟨e, X, h, hk⟩ => hold0.dead e X k h hk))
  refine ⟨l, [{ target := .collected D, args := #[] }], w1, { target := .fn (.func f) cs.toArray, args := #[.func (.yield l) #[] #[]] }, w1, f, (.func (.yield l) #[] #[] :: cs).toArray, w1, ?_, ?_, fun f' _ => trivial, ?_, fun hd => absurd hd (by decide), callsIn_wide.2 (hrun.mono fun e w3 he => ?_)⟩
  · have := run_enterLoop_outer (P := P) (w := w) fn a.tmps #[p] ac bd
    rw [← hw1, ← hD, ← hl, show (w.alloc dfr).heap.size = w.heap.size + 1 from by simp]
    exact this
  · simp [resolve, rangeCall, Act.eval, hv1, hv2, Deferred.ofValue]
  · show (callFunc f (#[.func (.yield l) #[] #[]] ++ cs.toArray)).run P w1 = _
    rw [hen]
    congr 2
    apply Array.ext'; simp
  obtain ⟨v', rfl, u', β', F', b1, b2, b3, b4, b5⟩ := he
  obtain ⟨β2, Fs2, s1, s2, s3, s4, s5⟩ : (Z0 fin).hold u' w3 (F' 700) := by
    have := b3.hold 700 _ lk1_same
    cases fin with
    | inl i => exact this
    | inr q => exact this
  have hlast : ∀ o : Obj, InSt (c.put D) n g' ((702, some (Ent.ob l o)) :: (701, some (Ent.ob D dfr)) :: Sum.elim M N fin) { a with defers := [{ target := .collected D, args := #[] }] ++ a.defers } (w3.putObj l o) := fun o => by
    have : InSt (c.put D) n g' (ZE fin) { a with defers := [{ target := .collected D, args := #[] }] ++ a.defers } w3 := by
      refine ⟨β2, u', Fs2, by rw [h1]; rfl, h2, s2, ⟨s3, fun e X k h hk => b3.dead 700 _ k lk1_same ((s5 k).2 ⟨e, X, h, hk⟩), s4⟩, h5.trans b2 (fun k ⟨e, _, hk⟩ => hfz k hk), fun e X k h hk => ?_, fun e he => ?_⟩
      · rcases b4 700 _ k lk1_same ((s5 k).2 ⟨e, X, h, hk⟩) with ⟨_, _, hk⟩ | hk
        · exact hfz k hk
        · exact .inr (Nat.le_trans h5.size hk)
      · have h8 : e ∈ c.I := he
        exact (s1 e (List.mem_append_left _ (hI ▸ h8))).trans (h7 e he)
    refine (this.putOb 702 (by show lkE ((702, _) :: _) 702 = _; rw [lkE_cons, if_pos rfl]) o).congr fun e => ?_
    show _ = lkE ((702, some (Ent.ob l o)) :: (702, some (Ent.ob l (RecO r (st2 (pdo pd fin)) (pdo pd fin)))) :: (701, some (Ent.ob D dfr)) :: Sum.elim M N fin) e
    rw [lkE_cons, lkE_cons (E := (702, _) :: _)]
    by_cases q : 702 = e
    · rw [if_pos q, if_pos q]
    · rw [if_neg q, if_neg q, lkE_cons (e := 702), if_neg q]
  have hr3 : w3.heap[l]? = some (RecO r (st2 (pdo pd fin)) (pdo pd fin)) := (s3 702 (Ent.ob l (RecO r (st2 (pdo pd fin)) (pdo pd fin))) (by show lkE ((702, _) :: _) 702 = _; rw [lkE_cons, if_pos rfl])).2
  refine ⟨_, _, run_endLoop hr3 (by cases fin <;> simp [pdo, st2]), ?_⟩
  have hd := hdone l D (.loop { { r with state := st2 (pdo pd fin), pending := pdo pd fin } with state := .exhausted })
  have hl3 := hlast (.loop { { r with state := st2 (pdo pd fin), pending := pdo pd fin } with state := .exhausted })
  cases fin with
  | inl i => exact hd _ _ hl3
  | inr q =>
    have := hd _ _ hl3
    have hF' : Fc (c.put D).rd = Fence.wide := hF
    rw [hF'] at this
    exact this
end
section
variable {P : Program} {c : Ctx} {n : Nat} {g : List (Nat × T)} {E : List (Nat × Option Ent)} {fn : Func} {R : Ending → World → Prop}
/-- A function with such a loop. -/
theorem fn_ofM {f : FuncId} {x : Code} {As : List T} {Ei Eo : List (Nat × Ent)} {N : List Nat} {R : T} (hf : P.funcs[f]? = some fn) (hb : fn.body = some x) (ha : As.length ≤ fn.ntmps)
    (h : ∀ c : Ctx0, c.up.I = nsOf (argl 0 As) ++ nsEnts Ei → Tri P x (bodyPostM Fence.wide 0 P fn (Back c.up Eo N R)) c.up fn.ntmps (argl 0 As) (somes Ei)) : Fn P f As Ei Eo N R := fun vs β u w F hs hr hH => by
  have hl := hr.len
  refine (callsIn_wide.1 (callsIn_of_wp_marks hf hb trivial (h ⟨w, u, Fp F (Names Ei), β, _⟩ rfl _ w ⟨β, u, F, rfl, by simp; omega, fun t X hX => ?_, ?_, Tr.refl hs, fun e X k he hk => .inl ?_, fun _ _ => rfl⟩))).mono fun e w' he => ?_
  · obtain ⟨_, h2⟩ := lk_argl _ _ _ _ hX
    rw [Nat.sub_zero] at h2
    obtain ⟨v, h3, h4⟩ := hr.at h2
    have hlt := (List.getElem?_eq_some_iff.1 h3).1
    exact ⟨v, by simp [Array.getElem?_append, hlt, h3]; simpa [hlt] using h3, h4⟩
  · rw [show lkE (somes Ei) = lk Ei from funext (lkE_somes Ei)]; exact hH
  · rw [lkE_somes] at he
    exact ⟨e, List.mem_map.2 ⟨_, lk_mem he, rfl⟩, hk⟩
  · obtain ⟨v, rfl, u', β', F', h1, h2, h3, h4, h5⟩ := he
    exact ⟨v, rfl, u', β', F', h1, h2, h3, h4, h5⟩
theorem ret_M0 {e : Exit} (he : e = .ret ∨ e = .normal) (h : PN c n (bodyPost P fn R .ret) g E) : PN c n (bodyPostM Fence.wide 0 P fn R e) g E := fun a w hS => by
  obtain ⟨hd, v, h1, h2⟩ := h a w hS
  have : LeavesInM Fence.wide 0 P fn a.tmps R a.defers .returning w := by rw [hd]; exact ⟨v, h1, h2⟩
  rcases he with rfl | rfl <;> exact this
theorem ret_M1 {e : Exit} {D : Nat} (he : e = .ret ∨ e = .normal) (hE : lkE E 701 = some (Ent.ob D dfr)) (hdf : c.df = []) (h : PN c n (bodyPost P fn R .ret) g ((701, some (Ent.ob D (.deferred none))) :: E)) : PN (c.put D) n (bodyPostM Fence.wide 0 P fn R e) g E := fun a w hS => by
  have hk : w.heap[D]? = some dfr := by
    obtain ⟨β, u, F, h1, h2, h3, h4, h5, h6, h7⟩ := hS
    exact (h4.hold 701 (Ent.ob D dfr) hE).2
  have ha : a.defers = [{ target := .collected D, args := #[] }] := by
    obtain ⟨β, u, F, h1, _⟩ := hS
    rw [h1]
    show _ :: c.df = _
    rw [hdf]
  have hS' : InSt c n g ((701, some (Ent.ob D (.deferred none))) :: E) { a with defers := [] } (w.putObj D (.deferred none)) := by
    obtain ⟨β, u, F, h1, h2, h3, h4, h5, h6, h7⟩ := hS.putOb 701 hE (.deferred none)
    exact ⟨β, u, F, hdf.symm, h2, h3, h4, h5, h6, h7⟩
  obtain ⟨hd, v, h1, h2⟩ := h _ _ hS'
  have : LeavesInM Fence.wide 0 P fn a.tmps R a.defers .returning w := by
    rw [ha]
    exact ⟨by simp, .inl ⟨D, _, rfl, run_takeDeferred hk, v, h1, h2⟩⟩
  rcases he with rfl | rfl <;> exact this
theorem pn_off (h : PN c n (bodyPost P fn R .ret) g E) : PN c n (bodyPost P fn R .normal) g E := h
variable {Eo : List (Nat × Ent)} {N I : List Nat} {X : T}
theorem ret0 (hI : c.I = I) (hr : fn.results = #[]) (hX : (T.tup []).le X) (hE : SubE (somes Eo) E) (hok : retOk I Eo N X = true := by kernel_rfl) (hdf : c.df = [] := by rfl) : PN c n (bodyPost P fn (Back c Eo N X) .ret) g E :=
  ret_any hI hok hE hX (hdf := hdf) fun β u w F tmps hs ht hH => by
    refine ⟨.tuple #[], ?_, [], rfl, trivial⟩
    unfold results
    rw [hr]
    simp
end
end Go.Proofs.YtekghdfbhbhigaaGreat.V
/- The numbers about a centre, one behind another; small things of values. -/
set_option linter.unusedVariables false
set_option maxRecDepth 100000
namespace Go.Proofs.YtekghdfbhbhigaaGreat.V
open Go.RowKit Mt Nml
theorem ediv_is {M q a : Int} (hM : 0 < M) (h1 : M * a ≤ q) (h2 : q < M * a + M) : q / M = a := by
  have e1 : q / M < a + 1 := Int.ediv_lt_of_lt_mul hM (by rw [Int.add_mul, Int.one_mul, Int.mul_comm]; exact h2)
  have e2 : a ≤ q / M := Int.le_ediv_of_mul_le hM (by rw [Int.mul_comm]; exact h1)
  omega
theorem nth_zero (c : Rat) : nth c 0 = nea c := by
  unfold nth
  split <;> simp
theorem bhd_nth (c : Rat) (k : Nat) : bhd c (nth c k) = nth c (k + 1) := by
  have hM := den_p' c
  have e := nea_eq c
  have h1 := Int.ediv_mul_le (2 * c.num + (c.den : Int)) (b := 2 * (c.den : Int)) (by omega)
  have h2 := Int.lt_ediv_add_one_mul_self (2 * c.num + (c.den : Int)) (b := 2 * (c.den : Int)) (by omega)
  unfold bhd
  simp only [mir_eq, c_lt_int]
  unfold nth
  simp only [int_le_c, eq_iff_iff]
  rw [← e] at h1 h2
  generalize nea c = y at *
  generalize c.num = N at *
  generalize (c.den : Int) = M at *
  have e1 : y * (2 * M) = 2 * (M * y) := by rw [Int.mul_comm y, Int.mul_assoc]
  have e2 : (y + 1) * (2 * M) = 2 * (M * y) + 2 * M := by rw [Int.add_mul, e1]; omega
  rw [e1] at h1
  rw [e2] at h2
  obtain ⟨j, hj⟩ : ∃ j, k = 2 * j ∨ k = 2 * j + 1 := ⟨k / 2, by omega⟩
  have hp : 0 ≤ M * (j : Int) := Int.mul_nonneg (by omega) (by omega)
  have a1 : ∀ z : Int, M * (y + z) = M * y + M * z := fun z => Int.mul_add _ _ _
  have a2 : ∀ z : Int, M * (y - z) = M * y - M * z := fun z => Int.mul_sub _ _ _
  have a3 : M * ((j + 1 : Nat) : Int) = M * (j : Int) + M := by rw [Int.natCast_add, Int.mul_add]; show _ + M * 1 = _; omega
  have a4 : M * ((j : Int) + 1) = M * (j : Int) + M := by rw [Int.mul_add]; omega
  rcases hj with rfl | rfl
  · rw [show (2 * j + 1) / 2 = j by omega, show (2 * j + 1 + 1) / 2 = j + 1 by omega]
    have p1 : ¬ (2 * j % 2 = 1) := by omega
    have p2 : (2 * j + 1) % 2 = 1 := by omega
    by_cases h : M * y ≤ N
    · have v1 : (if (2 * j % 2 = 1 ↔ M * y ≤ N) then y + (j : Int) else y - (j : Int)) = y - (j : Int) := if_neg (by simp [p1, h])
      have v2 : (if ((2 * j + 1) % 2 = 1 ↔ M * y ≤ N) then y + ((j + 1 : Nat) : Int) else y - ((j + 1 : Nat) : Int)) = y + ((j + 1 : Nat) : Int) := if_pos (by simp [p2, h])
      rw [v1, v2, a2, if_neg (by omega), ediv_is (a := y + (j : Int)) hM (by rw [a1]; omega) (by rw [a1]; omega)]
      omega
    · have v1 : (if (2 * j % 2 = 1 ↔ M * y ≤ N) then y + (j : Int) else y - (j : Int)) = y + (j : Int) := if_pos (by simp [p1, h])
      have v2 : (if ((2 * j + 1) % 2 = 1 ↔ M * y ≤ N) then y + ((j + 1 : Nat) : Int) else y - ((j + 1 : Nat) : Int)) = y - ((j + 1 : Nat) : Int) := if_neg (by simp [p2, h])
      rw [v1, v2, a1, if_pos (by omega), ediv_is (a := y - ((j : Int) + 1)) hM (by rw [a2, a4]; omega) (by rw [a2, a4]; omega)]
      omega
  · rw [show (2 * j + 1 + 1) / 2 = j + 1 by omega, show (2 * j + 1 + 1 + 1) / 2 = j + 1 by omega]
    have p1 : (2 * j + 1) % 2 = 1 := by omega
    have p2 : ¬ ((2 * j + 1 + 1) % 2 = 1) := by omega
    by_cases h : M * y ≤ N
    · have v1 : (if ((2 * j + 1) % 2 = 1 ↔ M * y ≤ N) then y + ((j + 1 : Nat) : Int) else y - ((j + 1 : Nat) : Int)) = y + ((j + 1 : Nat) : Int) := if_pos (by simp [p1, h])
      have v2 : (if ((2 * j + 1 + 1) % 2 = 1 ↔ M * y ≤ N) then y + ((j + 1 : Nat) : Int) else y - ((j + 1 : Nat) : Int)) = y - ((j + 1 : Nat) : Int) := if_neg (by simp [p2, h])
      rw [v1, v2, a1, a3, if_pos (by omega), ediv_is (a := y - ((j : Int) + 1)) hM (by rw [a2, a4]; omega) (by rw [a2, a4]; omega)]
      omega
    · have v1 : (if ((2 * j + 1) % 2 = 1 ↔ M * y ≤ N) then y + ((j + 1 : Nat) : Int) else y - ((j + 1 : Nat) : Int)) = y - ((j + 1 : Nat) : Int) := if_neg (by simp [p1, h])
      have v2 : (if ((2 * j + 1 + 1) % 2 = 1 ↔ M * y ≤ N) then y + ((j + 1 : Nat) : Int) else y - ((j + 1 : Nat) : Int)) = y + ((j + 1 : Nat) : Int) := if_pos (by simp [p2, h])
      rw [v1, v2, a2, a3, if_neg (by omega), ediv_is (a := y + (j : Int)) hM (by rw [a1]; omega) (by rw [a1]; omega)]
      omega
theorem fp_st1 {X : T} : (T.fp (T.st [X])).le (T.fp X) := fun β u v ⟨ad, x, e, _, ⟨cs, e1, y, rest, h0, h1, e2, h3⟩, h2⟩ => by
  have hr : rest = [] := h3
  subst hr
  rw [List.append_nil] at e2
  refine ⟨ad, y, e, h0, h1, ?_⟩
  rw [e1, e2] at h2
  simpa [Value.cells] using h2
/-- One's own in a round is another's concern. -/
theorem YOk.le {P : Program} {l : Nat} {X Y : T} {z z' : Ent0} {b : Bool} (h : YOk P l Y z b z') (hl : X.le Y) : YOk P l X z b z' := fun v u w F hs hv hz hd => h v u w F hs (hl _ _ _ hv) hz hd
end Go.Proofs.YtekghdfbhbhigaaGreat.V
/- Search trees: iterators. -/
set_option linter.unusedVariables false
set_option linter.unusedSimpArgs false
set_option maxRecDepth 100000
namespace Go.Proofs.YtekghdfbhbhigaaGreat.V
open Go.RowKit Mt Nml
theorem tyYc : Ty Tryz.prog 160 false 1 := ⟨by kernel_rfl, by kernel_rfl⟩
theorem tyYs : Ty Tryz.prog 167 false 1 := ⟨by kernel_rfl, by kernel_rfl⟩
theorem tyCh : Ty Tryz.prog 109 true 6 := ⟨by kernel_rfl, by kernel_rfl⟩
theorem fChx : FieldT Tryz.prog 109 0 0 true 2 := FieldT.mk' tyZ
theorem fChp : FieldT Tryz.prog 109 1 2 true 4 := FieldT.mk' tyQ
abbrev T.Y (l : Nat) : T := T.c (.func (.yield l) #[] #[])
/-- A child: a number, a part. -/
abbrev T.Ch (x : Int) (k : Nat) (q : Rat) (m : Nat) : T := T.st [T.Z x k, T.Q q m]
theorem cq_le {x y : Rat} : cq x y ≤ 0 ↔ x ≤ y := by
  unfold cq
  by_cases h : x < y
  · rw [if_pos h]; exact ⟨fun _ => Rat.le_of_lt h, fun _ => by decide⟩
  · rw [if_neg h]
    by_cases h2 : y < x
    · rw [if_pos h2]; exact ⟨fun h => absurd h (by decide), fun h => absurd h (Rat.not_le.2 h2)⟩
    · rw [if_neg h2]; exact ⟨fun _ => Rat.not_lt.1 h2, fun _ => by decide⟩

theorem t_zig1 {l : Nat} {Z : Nat → Ent0} {zf : Ent0} {c : Rat} {k kx K : Nat} (hk : k ≤ 1073741824) (hkx : kx ≤ 1073741824) (hz : ∀ j, j ≤ K → zl (nth c j) ≤ kx) (hY : ∀ j, j < K → YOk Tryz.prog l (T.Z (nth c j) kx) (Z j) true (Z (j + 1))) (hf : YOk Tryz.prog l (T.Z (nth c K) kx) (Z K) false zf) : Fn Tryz.prog 164 [T.Y l, T.fp (T.V c k)] [(700, Ent.ab (Z 0))] [(700, Ent.ab zf)] [] (T.tup []) := by
  refine fn_of Tryz.func164 rfl (by show 2 ≤ 16; decide) fun cx hcx => ?_
  refine tri_sub (sl 0 rfl (sl 1 rfl sn)) (el 700 rfl en) ?_
  refine tri_seq ?_
  refine tri_reg mixed hcx ?_ _ _
  refine lf rfl tyQ ?_
  refine cb rfl (h := rv_Near (by omega)) (hn := ?_)
  refine mv rfl ?_
  refine ex rfl rfl ?_
  refine ex rfl rfl ?_
  refine nw 15 zeZ ?_
  refine st rfl rfl rfl tyZ rfl ?_
  refine asg rfl ?_
  refine ⟨by kernel_rfl, ?_⟩
  refine nx (sl 0 rfl (sl 1 rfl (sl 3 rfl sn))) (el 700 rfl (el 15 rfl en)) ?_
  refine tri_block ?_
  refine tri_loop (ι := Nat) (fun j => [(0, T.Y l), (1, T.fp (T.V c k)), (3, T.p 15 0)]) (fun j => [(15, some (Ent.box 32 [T.Z (nth c j) kx])), (700, some (Ent.ab (Z j)))]) (fun j => K - j) (fun j => (j ≤ K)) 0 (Nat.zero_le _) (sl 0 rfl (sl 1 rfl (sl 3 rfl sn))) (ew 15 rfl (box_pack1 ((T.le.of (by rw [nth_zero])).trans (z_as (hz 0 (Nat.zero_le _))))) (el 700 rfl en)) ?_
  rintro j hj
  refine tri_sub (sl 0 rfl (sl 1 rfl (sl 3 rfl sn))) (el 15 rfl (el 700 rfl en)) ?_
  refine tri_seq ?_
  refine tri_seq ?_
  rcases Nat.lt_or_ge j K with hlt | hge
  · refine tri_reg mixed hcx ?_ _ _
    refine mv rfl ?_
    refine ld rfl rfl tyZ rfl ?_
    refine yd (e := 700) rfl rfl rfl (hY j hlt) (.refl _) ?_
    refine ⟨by kernel_rfl, ?_⟩
    refine nx (sl 0 rfl (sl 1 rfl (sl 3 rfl (sl 12 rfl sn)))) (el 15 rfl (el 700 rfl en)) ?_
    refine tri_true rfl rfl ?_
    refine tri_skip ?_
    refine nx (sl 0 rfl (sl 1 rfl (sl 3 rfl sn))) (el 15 rfl (el 700 rfl en)) ?_
    refine tri_block ?_
    refine tri_reg mixed hcx ?_ _ _
    refine lf rfl tyQ ?_
    refine ld rfl rfl tyZ rfl ?_
    refine cb rfl (h := t_behind (by omega) (by omega)) (hn := ?_)
    refine st rfl rfl rfl tyZ rfl ?_
    refine ⟨by kernel_rfl, ?_⟩
    refine pn_blk ?_
    exact pn_back (j + 1) (by first | omega | (dsimp only; omega)) (by omega) (sl 0 rfl (sl 1 rfl (sl 3 rfl sn))) (ew 15 rfl (box_pack1 ((T.le.of (by rw [bhd_nth])).trans (z_as (hz (j + 1) (by omega))))) (el 700 rfl en))
  · obtain rfl : j = K := by omega
    refine tri_reg mixed hcx ?_ _ _
    refine mv rfl ?_
    refine ld rfl rfl tyZ rfl ?_
    refine yd (e := 700) rfl rfl rfl (hf) (.refl _) ?_
    refine ⟨by kernel_rfl, ?_⟩
    refine nx (sl 0 rfl (sl 1 rfl (sl 3 rfl (sl 12 rfl sn)))) (el 15 rfl (el 700 rfl en)) ?_
    refine tri_false rfl rfl ?_
    refine tri_exit ?_
    repeat (first | refine pn_then ?_ | refine pn_oth (by decide) ?_)
    refine pn_ex ?_
    refine pn_off ?_
    exact ret0 hcx rfl  (.refl _) (el 700 rfl en)

theorem t_zig {c : Rat} {k : Nat} : Fn Tryz.prog 122 [T.V c k] [] [] [] (T.fn 164 [T.fp (T.V c k)]) := by
  refine fn_of Tryz.func122 rfl (by show 1 ≤ 4; decide) fun cx hcx => ?_
  refine tri_sub (sl 0 rfl sn) en ?_
  refine tri_seq ?_
  refine tri_reg mixed hcx ?_ _ _
  refine bx 10 rfl ?_
  refine asg rfl ?_
  refine ⟨by kernel_rfl, ?_⟩
  refine nx (sl 1 rfl sn) (el 10 rfl en) ?_
  refine tri_seq ?_
  refine tri_fzb 1 10 rfl rfl (fun h => Nat.noConfusion h) ?_
  refine tri_as 1 (Z := T.fp (T.V c k)) rfl (fp_st1) ?_
  refine tri_reg mixed hcx ?_ _ _
  refine mf rfl ?_
  refine asg rfl ?_
  refine ⟨by kernel_rfl, ?_⟩
  refine nx (sl 2 rfl sn) en ?_
  refine tri_ret ?_
  repeat (first | refine pn_thenr ?_ | refine pn_blkr ?_)
  exact ret1 hcx rfl (rv_tmp rfl) (.refl _) en

theorem t_within {D : List Int} {L : List (List Int)} {ts : List (Int × Int)} {a b : Int} {k : Nat} {p : Rat} {kp : Nat} (hb : 0 < b) (hk : k ≤ 16777216) (hkp : kp ≤ 17179869184) : Fn Tryz.prog 64 [T.Tr D L ts a b k, T.V p kp] [] [] [] (T.c (.bool (decide (p ≤ (a : Rat) / (b : Rat))))) := by
  refine fn_of Tryz.func64 rfl (by show 2 ≤ 16; decide) fun cx hcx => ?_
  refine tri_sub (sl 0 rfl (sl 1 rfl sn)) en ?_
  refine tri_seq ?_
  refine tri_reg mixed hcx ?_ _ _
  refine bxs 10 rfl ?_
  refine bx 11 rfl ?_
  refine asg rfl ?_
  refine ⟨by kernel_rfl, ?_⟩
  refine nx (sl 2 rfl (sl 3 rfl sn)) (el 10 rfl (el 11 rfl en)) ?_
  refine tri_seq ?_
  refine tri_reg mixed hcx ?_ _ _
  refine ld rfl rfl tyQ rfl ?_
  refine fa rfl fTrR 3 ?_
  refine ld rfl rfl tyQ rfl ?_
  refine cb rfl (h := rv_Cmp (by omega) (by omega)) (hn := ?_)
  refine mv rfl ?_
  refine ex rfl rfl ?_
  refine ex rfl rfl ?_
  refine asg rfl ?_
  refine asg rfl ?_
  refine ⟨by kernel_rfl, ?_⟩
  refine nx (sl 5 rfl sn) (el 10 rfl (el 11 rfl en)) ?_
  refine tri_seq ?_
  refine tri_reg mixed hcx ?_ _ _
  refine mv rfl ?_
  refine cle rfl rfl rfl ?_
  refine asg rfl ?_
  refine ⟨by kernel_rfl, ?_⟩
  refine nx (sl 4 rfl sn) (el 10 rfl (el 11 rfl en)) ?_
  refine tri_ret ?_
  repeat (first | refine pn_thenr ?_ | refine pn_blkr ?_)
  exact ret1 hcx rfl (rv_tmp rfl) (.of (by rw [decide_eq_decide.2 cq_le])) en

theorem stCh : StructT Tryz.prog 109 [T.c (.bool false), T.c (.slice none 0 0), T.c (.bool false), T.c (.slice none 0 0), T.c (.bool false), T.c (.slice none 0 0)] [(0, 2), (2, 4)] := StructT.mk' (zs := [.bool false, .slice none 0 0, .bool false, .slice none 0 0, .bool false, .slice none 0 0])
theorem zeCh : Zero Tryz.prog 109 [T.c (.bool false), T.c (.slice none 0 0), T.c (.bool false), T.c (.slice none 0 0), T.c (.bool false), T.c (.slice none 0 0)] := zero_of (zs := [.bool false, .slice none 0 0, .bool false, .slice none 0 0, .bool false, .slice none 0 0]) (z := .agg #[.bool false, .slice none 0 0, .bool false, .slice none 0 0, .bool false, .slice none 0 0]) (by kernel_rfl)
theorem getD_snoc {s : List Int} {x : Int} (j : Nat) : (s ++ [x]).getD j 0 = if j = s.length then x else s.getD j 0 := by
  simp only [List.getD_eq_getElem?_getD, List.getElem?_append]
  by_cases h : j < s.length
  · rw [if_pos h, if_neg (by omega)]
  · rw [if_neg h]
    by_cases h2 : j = s.length
    · rw [if_pos h2, h2]; simp
    · rw [if_neg h2, List.getElem?_eq_none (by simp; omega), List.getElem?_eq_none (by omega)]
/-- The part of a child. -/
theorem pt_snoc (D : List Int) (L : List (List Int)) (ts : List (Int × Int)) (s : List Int) (m : Nat) (x : Int) : ptT D L ts s m s.length + ((x : Rat) - ctT D L ts s m (m - s.length) s.length) * ((x : Rat) - ctT D L ts s m (m - s.length) s.length) * stq D (m - s.length) = ptT D L ts (s ++ [x]) m (s.length + 1) := by
  show _ = ptT D L ts (s ++ [x]) m s.length + _
  have e1 : ptT D L ts (s ++ [x]) m s.length = ptT D L ts s m s.length := ptT_ext fun j hj => by rw [getD_snoc, if_neg (by omega)]
  have e2 : ctT D L ts (s ++ [x]) m (m - s.length) s.length = ctT D L ts s m (m - s.length) s.length := ctT_ext fun j hj => by rw [getD_snoc, if_neg (by omega)]
  rw [e1, e2, getD_snoc, if_pos rfl]
theorem zl_snoc {s : List Int} {x : Int} {k : Nat} (h : ∀ j, zl (s.getD j 0) ≤ k) (hx : zl x ≤ k) (j : Nat) : zl ((s ++ [x]).getD j 0) ≤ k := by
  rw [getD_snoc]
  split
  · exact hx
  · exact h j

theorem t_kids1 {D : List Int} {L : List (List Int)} {ts : List (Int × Int)} {a b : Int} {n k : Nat} (h : TrS D L ts n k) {s : List Int} {l : Nat} {Z : Nat → Ent0} {zf : Ent0} {K : Nat} (hb : 0 < b) (hs : s.length + 1 ≤ n) (hz : ∀ j, zl (s.getD j 0) ≤ k) (hx : ∀ j, j ≤ K → zl (nth (ctT D L ts s (n - 1) (n - 1 - s.length) s.length) j) ≤ k) (hw : ∀ j, j < K → ptT D L ts (s ++ [nth (ctT D L ts s (n - 1) (n - 1 - s.length) s.length) j]) (n - 1) (s.length + 1) ≤ (a : Rat) / (b : Rat)) (hY : ∀ j, j < K → YOk Tryz.prog l (T.Ch (nth (ctT D L ts s (n - 1) (n - 1 - s.length) s.length) j) k (ptT D L ts (s ++ [nth (ctT D L ts s (n - 1) (n - 1 - s.length) s.length) j]) (n - 1) (s.length + 1)) 15100000000) (Z j) true (Z (j + 1))) (hf : (¬ ptT D L ts (s ++ [nth (ctT D L ts s (n - 1) (n - 1 - s.length) s.length) K]) (n - 1) (s.length + 1) ≤ (a : Rat) / (b : Rat) ∧ zf = Z K) ∨ (ptT D L ts (s ++ [nth (ctT D L ts s (n - 1) (n - 1 - s.length) s.length) K]) (n - 1) (s.length + 1) ≤ (a : Rat) / (b : Rat) ∧ YOk Tryz.prog l (T.Ch (nth (ctT D L ts s (n - 1) (n - 1 - s.length) s.length) K) k (ptT D L ts (s ++ [nth (ctT D L ts s (n - 1) (n - 1 - s.length) s.length) K]) (n - 1) (s.length + 1)) 15100000000) (Z K) false zf)) : Fn Tryz.prog 121 [T.Y l, T.fp (T.Tr D L ts a b k), T.fp (T.l (cZi k) s), T.fp (T.Q (ptT D L ts s (n - 1) s.length) 15100000000)] [(700, Ent.ab (Z 0))] [(700, Ent.ab zf)] [] (T.tup []) := by
  refine fn_ofM Tryz.func121 rfl (by show 4 ≤ 33; decide) fun cx hcx => ?_
  refine tri_sub (sl 0 rfl (sl 1 rfl (sl 2 rfl (sl 3 rfl sn)))) (el 700 rfl en) ?_
  have hn12 := h.twelve
  have hkk := h.hk
  have hlL := h.len
  have hn0 := h.pos
  have hnd : ∀ d, n - 1 - d = n - 1 - d := fun _ => rfl
  refine tri_seq ?_
  refine tri_reg mixed hcx ?_ _ _
  refine bx 10 rfl ?_
  refine ⟨by kernel_rfl, ?_⟩
  refine nx (sl 1 rfl (sl 2 rfl (sl 3 rfl (sl 4 rfl sn)))) (el 700 rfl (el 10 rfl en)) ?_
  refine tri_seq ?_
  refine tri_fzb 4 10 rfl rfl (fun h => Nat.noConfusion h) ?_
  refine tri_as 4 (Z := T.fp (T.Y l)) rfl (fp_st1) ?_
  refine tri_reg mixed hcx ?_ _ _
  refine lf rfl tyTr ?_
  refine lf rfl tyZs ?_
  refine ca rfl (h := t_centre h (by omega)) (hn := ?_)
  refine nw 113 zeQ ?_
  refine st rfl rfl rfl tyQ rfl ?_
  refine ⟨by kernel_rfl, ?_⟩
  refine nx (sl 1 rfl (sl 2 rfl (sl 3 rfl (sl 4 rfl (sl 5 rfl sn))))) (el 700 rfl (el 113 rfl en)) ?_
  refine tri_seq ?_
  refine tri_fzb 5 113 rfl rfl (fun h => Nat.noConfusion h) ?_
  refine tri_as 5 (Z := T.fp (T.Q (ctT D L ts s (n - 1) (n - 1 - s.length) s.length) 600000000)) rfl (fp_st1) ?_
  refine tri_reg mixed hcx ?_ _ _
  refine lf rfl tyQ ?_
  refine cb rfl (h := t_zig) (hn := ?_)
  refine ⟨by kernel_rfl, ?_⟩
  refine nx (sl 1 rfl (sl 2 rfl (sl 3 rfl (sl 4 rfl (sl 5 rfl (sl 12 rfl sn)))))) (el 700 rfl en) ?_
  refine tri_block ?_
  refine tri_range (ι := Nat) (κ := Unit) (f := 164) (Caps := [T.fp (T.V (ctT D L ts s (n - 1) (n - 1 - s.length) s.length) 600000000)]) (R := T.tup []) (g' := [(1, T.fp (T.Tr D L ts a b k)), (2, T.fp (T.l (cZi k) s)), (3, T.fp (T.Q (ptT D L ts s (n - 1) s.length) 15100000000)), (4, T.fp (T.Y l)), (5, T.fp (T.Q (ctT D L ts s (n - 1) (n - 1 - s.length) s.length) 600000000))]) (fun j => [(700, some (Ent.ab (Z j)))]) (fun _ => [(700, some (Ent.ab zf))]) (fun _ => .ret) (fun j X o => (j < K ∧ X = T.Z (nth (ctT D L ts s (n - 1) (n - 1 - s.length) s.length) j) k ∧ o = .inl (j + 1)) ∨ (j = K ∧ X = T.Z (nth (ctT D L ts s (n - 1) (n - 1 - s.length) s.length) j) k ∧ o = .inr ())) (0) (.inr ()) rfl hcx rfl (by intro a w; kernel_rfl) (by decide) (sl 1 rfl (sl 2 rfl (sl 3 rfl (sl 4 rfl (sl 5 rfl sn))))) (el 700 rfl en) ?_ ?_ ?_ ?_
  · intro lw W V hW
    exact t_zig1 (Z := W) (zf := V ()) (by omega) (by omega) hx (fun j hj => hW j _ (.inl (j + 1)) (.inl ⟨hj, rfl, rfl⟩)) (hW K _ (.inr ()) (.inr ⟨rfl, rfl, rfl⟩))
  · rintro j X o (⟨_, rfl, _⟩ | ⟨_, rfl, _⟩) <;> rfl
  · rintro lr dB rr c' hrd hdf hcx' j X o (⟨hj, rfl, rfl⟩ | ⟨hj, rfl, rfl⟩)
    · have hwj := hw j hj
      refine tri_reg mixed hcx' ?_ _ _
      refine nw 310 zeZ ?_
      refine st rfl rfl rfl tyZ rfl ?_
      refine ⟨by kernel_rfl, ?_⟩
      refine nx_begin hrd rfl (sl 1 rfl (sl 2 rfl (sl 3 rfl (sl 4 rfl (sl 5 rfl (sl 6 rfl sn)))))) (el 702 rfl (el 701 rfl (el 700 rfl (el 310 rfl en)))) ?_
      refine tri_block ?_
      refine tri_seq ?_
      refine tri_reg mixed hcx' ?_ _ _
      refine lf rfl tyTr ?_
      refine lf rfl tyQ ?_
      refine lf rfl tyQ ?_
      refine lf rfl tyZs ?_
      refine ln slZs rfl ?_
      refine ld rfl rfl tyZ rfl ?_
      refine cb rfl (h := t_grown h (by omega) (by omega) (by omega) (by omega)) (hn := ?_)
      refine nw 417 zeQ ?_
      refine st rfl rfl rfl tyQ rfl ?_
      refine ⟨by kernel_rfl, ?_⟩
      refine nx (sl 1 rfl (sl 4 rfl (sl 6 rfl (sl 7 rfl sn)))) (el 702 rfl (el 701 rfl (el 700 rfl (el 310 rfl (el 417 rfl en))))) ?_
      refine tri_seq ?_
      refine tri_sub (sl 1 rfl (sl 4 rfl (sl 6 rfl (sl 7 rfl sn)))) (el 702 rfl (el 701 rfl (el 700 rfl (el 310 rfl (ew 417 rfl (box_q (q_qb (by rw [hnd]; exact pt_snoc D L ts s (n - 1) (nth (ctT D L ts s (n - 1) (n - 1 - s.length) s.length) j)) (h.pt' (zl_snoc hz (hx j (by omega))) (m := n - 1) (by omega) (by omega)))) en))))) ?_
      refine tri_reg mixed hcx' ?_ _ _
      refine lf rfl tyTr ?_
      refine ld rfl rfl tyQ rfl ?_
      refine cb rfl (h := t_within hb (by omega) (by omega)) (hn := ?_)
      refine nt rfl _ (show (!decide _) = false from by rw [decide_eq_true hwj]; rfl) ?_
      refine mv rfl ?_
      refine lf rfl tyYc ?_ (hg := gd1)
      refine ld rfl rfl tyZ rfl ?_ (hg := gd1)
      refine ld rfl rfl tyQ rfl ?_ (hg := gd1)
      refine bu stCh rfl ?_ (hg := gd1)
      refine yd (e := 700) rfl rfl rfl (hY j hj) (.refl _) ?_ (hg := gd1)
      refine nt rfl _ rfl ?_ (hg := gd1)
      refine pk rfl rfl ?_
      refine ⟨by kernel_rfl, ?_⟩
      refine nx (sl 32 rfl sn) (el 702 rfl (el 701 rfl (el 700 rfl (el 310 rfl (el 417 rfl en))))) ?_
      refine tri_false rfl rfl ?_
      refine tri_skip ?_
      refine pn_blk ?_
      exact rq_go (el 702 rfl (el 701 rfl (el 700 rfl en)))
    · refine tri_reg mixed hcx' ?_ _ _
      refine nw 310 zeZ ?_
      refine st rfl rfl rfl tyZ rfl ?_
      refine ⟨by kernel_rfl, ?_⟩
      refine nx_begin hrd rfl (sl 1 rfl (sl 2 rfl (sl 3 rfl (sl 4 rfl (sl 5 rfl (sl 6 rfl sn)))))) (el 702 rfl (el 701 rfl (el 700 rfl (el 310 rfl en)))) ?_
      refine tri_block ?_
      refine tri_seq ?_
      refine tri_reg mixed hcx' ?_ _ _
      refine lf rfl tyTr ?_
      refine lf rfl tyQ ?_
      refine lf rfl tyQ ?_
      refine lf rfl tyZs ?_
      refine ln slZs rfl ?_
      refine ld rfl rfl tyZ rfl ?_
      refine cb rfl (h := t_grown h (by omega) (by omega) (by omega) (by omega)) (hn := ?_)
      refine nw 417 zeQ ?_
      refine st rfl rfl rfl tyQ rfl ?_
      refine ⟨by kernel_rfl, ?_⟩
      refine nx (sl 1 rfl (sl 4 rfl (sl 6 rfl (sl 7 rfl sn)))) (el 702 rfl (el 701 rfl (el 700 rfl (el 310 rfl (el 417 rfl en))))) ?_
      refine tri_seq ?_
      rcases hf with ⟨hn, hzf⟩ | ⟨hn, hyf⟩
      · rw [← hj] at hn
        refine tri_sub (sl 1 rfl (sl 4 rfl (sl 6 rfl (sl 7 rfl sn)))) (el 702 rfl (el 701 rfl (el 700 rfl (el 310 rfl (ew 417 rfl (box_q (q_qb (by rw [hnd]; exact pt_snoc D L ts s (n - 1) (nth (ctT D L ts s (n - 1) (n - 1 - s.length) s.length) j)) (h.pt' (zl_snoc hz (hx j (by omega))) (m := n - 1) (by omega) (by omega)))) en))))) ?_
        refine tri_reg mixed hcx' ?_ _ _
        refine lf rfl tyTr ?_
        refine ld rfl rfl tyQ rfl ?_
        refine cb rfl (h := t_within hb (by omega) (by omega)) (hn := ?_)
        refine nt rfl _ (show (!decide _) = true from by rw [decide_eq_false hn]; rfl) ?_
        refine mv rfl ?_
        refine j_off rfl rfl rfl rfl ?_
        refine j_off rfl rfl rfl rfl ?_
        refine j_off rfl rfl rfl rfl ?_
        refine j_off rfl rfl rfl rfl ?_
        refine j_off rfl rfl rfl rfl ?_
        refine j_off rfl rfl rfl rfl ?_
        refine pk rfl rfl ?_
        refine ⟨by kernel_rfl, ?_⟩
        refine nx (sl 32 rfl sn) (el 702 rfl (el 701 rfl (el 700 rfl (el 310 rfl (el 417 rfl en))))) ?_
        refine tri_true rfl rfl ?_
        refine tri_ret ?_
        repeat (first | refine pn_thenr ?_ | refine pn_blkr ?_)
        exact rq_ret (el 702 rfl (el 701 rfl (ew 700 rfl (.of (by rw [hzf, hj])) en)))
      · rw [← hj] at hn hyf
        refine tri_sub (sl 1 rfl (sl 4 rfl (sl 6 rfl (sl 7 rfl sn)))) (el 702 rfl (el 701 rfl (el 700 rfl (el 310 rfl (ew 417 rfl (box_q (q_qb (by rw [hnd]; exact pt_snoc D L ts s (n - 1) (nth (ctT D L ts s (n - 1) (n - 1 - s.length) s.length) j)) (h.pt' (zl_snoc hz (hx j (by omega))) (m := n - 1) (by omega) (by omega)))) en))))) ?_
        refine tri_reg mixed hcx' ?_ _ _
        refine lf rfl tyTr ?_
        refine ld rfl rfl tyQ rfl ?_
        refine cb rfl (h := t_within hb (by omega) (by omega)) (hn := ?_)
        refine nt rfl _ (show (!decide _) = false from by rw [decide_eq_true hn]; rfl) ?_
        refine mv rfl ?_
        refine lf rfl tyYc ?_ (hg := gd1)
        refine ld rfl rfl tyZ rfl ?_ (hg := gd1)
        refine ld rfl rfl tyQ rfl ?_ (hg := gd1)
        refine bu stCh rfl ?_ (hg := gd1)
        refine yd (e := 700) rfl rfl rfl (hyf) (.refl _) ?_ (hg := gd1)
        refine nt rfl _ rfl ?_ (hg := gd1)
        refine pk rfl rfl ?_
        refine ⟨by kernel_rfl, ?_⟩
        refine nx (sl 32 rfl sn) (el 702 rfl (el 701 rfl (el 700 rfl (el 310 rfl (el 417 rfl en))))) ?_
        refine tri_true rfl rfl ?_
        refine tri_ret ?_
        repeat (first | refine pn_thenr ?_ | refine pn_blkr ?_)
        exact rq_ret (el 702 rfl (el 701 rfl (el 700 rfl en)))
  · intro lr dB oo
    refine done_stop ?_
    refine tri_ret ?_
    repeat (first | refine pn_thenr ?_ | refine pn_blkr ?_)
    refine ret_M1 (.inl rfl) rfl rfl ?_
    exact ret0 hcx rfl  (.refl _) (el 700 rfl en)

theorem t_kids {D : List Int} {L : List (List Int)} {ts : List (Int × Int)} {a b : Int} {k : Nat} {s : List Int} {q : Rat} {m : Nat} : Fn Tryz.prog 65 [T.Tr D L ts a b k, T.l (cZi k) s, T.Q q m] [] [] [] (T.fn 121 [T.fp (T.Tr D L ts a b k), T.fp (T.l (cZi k) s), T.fp (T.Q q m)]) := by
  refine fn_of Tryz.func65 rfl (by show 3 ≤ 8; decide) fun cx hcx => ?_
  refine tri_sub (sl 0 rfl (sl 1 rfl (sl 2 rfl sn))) en ?_
  refine tri_seq ?_
  refine tri_reg mixed hcx ?_ _ _
  refine bxs 10 rfl ?_
  refine bx 11 rfl ?_
  refine bxs 12 rfl ?_
  refine asg rfl ?_
  refine ⟨by kernel_rfl, ?_⟩
  refine nx (sl 3 rfl (sl 4 rfl (sl 5 rfl sn))) (el 10 rfl (el 11 rfl (el 12 rfl en))) ?_
  refine tri_seq ?_
  refine tri_fzb 3 10 rfl rfl (fun h => Nat.noConfusion h) ?_
  refine tri_fzb 4 11 rfl rfl (fun h => Nat.noConfusion h) ?_
  refine tri_as 4 (Z := T.fp (T.l (cZi k) s)) rfl (fp_st1) ?_
  refine tri_fzb 5 12 rfl rfl (fun h => Nat.noConfusion h) ?_
  refine tri_reg mixed hcx ?_ _ _
  refine mf rfl ?_
  refine asg rfl ?_
  refine ⟨by kernel_rfl, ?_⟩
  refine nx (sl 6 rfl sn) en ?_
  refine tri_ret ?_
  repeat (first | refine pn_thenr ?_ | refine pn_blkr ?_)
  exact ret1 hcx rfl (rv_tmp rfl) (.refl _) en
end Go.Proofs.YtekghdfbhbhigaaGreat.V
/- The nodes of a search tree below a suffix, in their order. -/
set_option linter.unusedVariables false
set_option maxRecDepth 100000
namespace Go.Proofs.YtekghdfbhbhigaaGreat.V
open Go.RowKit Mt Nml
/-- The first j children with what lies below them. -/
def fl (s : List Int) (x : Nat → Int) (LL : Nat → List (List Int)) : Nat → List (List Int)
  | 0 => []
  | j + 1 => fl s x LL j ++ ((s ++ [x j]) :: LL j)
section
variable (s : List Int) (x : Nat → Int) (LL : Nat → List (List Int))
theorem fl_len (j : Nat) : (fl s x LL (j + 1)).length = (fl s x LL j).length + 1 + (LL j).length := by
  show (fl s x LL j ++ _).length = _
  rw [List.length_append, List.length_cons]; omega
theorem fl_mono {i j : Nat} (h : i ≤ j) : (fl s x LL i).length ≤ (fl s x LL j).length := by
  induction j with
  | zero => rw [show i = 0 by omega]; exact Nat.le_refl _
  | succ j ih =>
    rcases Nat.lt_or_ge i (j + 1) with h1 | h1
    · have := ih (by omega); rw [fl_len]; omega
    · rw [show i = j + 1 by omega]; exact Nat.le_refl _
theorem fl_get {i m : Nat} (h : i < m) (k : Nat) (hk : k < (LL i).length + 1) : (fl s x LL m).getD ((fl s x LL i).length + k) [] = ((s ++ [x i]) :: LL i).getD k [] := by
  induction m with
  | zero => omega
  | succ m ih =>
    show (fl s x LL m ++ ((s ++ [x m]) :: LL m)).getD _ [] = _
    rcases Nat.lt_or_ge i m with h1 | h1
    · have h2 := fl_mono s x LL (show i + 1 ≤ m by omega)
      rw [fl_len] at h2
      rw [← ih h1]
      simp only [List.getD_eq_getElem?_getD]
      rw [List.getElem?_append_left (by omega)]
    · obtain rfl : i = m := by omega
      simp only [List.getD_eq_getElem?_getD]
      rw [List.getElem?_append_right (by omega), Nat.add_sub_cancel_left]
theorem fl_node {i m : Nat} (h : i < m) : (fl s x LL m).getD (fl s x LL i).length [] = s ++ [x i] := fl_get s x LL h 0 (by omega)
theorem fl_below {i m k : Nat} (h : i < m) (hk : k < (LL i).length) : (fl s x LL m).getD ((fl s x LL i).length + 1 + k) [] = (LL i).getD k [] := by
  have := fl_get s x LL h (k + 1) (by omega)
  rw [show (fl s x LL i).length + 1 + k = (fl s x LL i).length + (k + 1) by omega, this]
  rfl
/-- In which child's part a place lies. -/
theorem fl_at {m K : Nat} (h : K ≤ (fl s x LL m).length) : ∃ J, J ≤ m ∧ (fl s x LL J).length ≤ K ∧ (J < m → K < (fl s x LL (J + 1)).length) ∧ (J = m → K = (fl s x LL m).length) := by
  induction m with
  | zero => exact ⟨0, Nat.le_refl _, Nat.zero_le _, fun h => absurd h (Nat.lt_irrefl _), fun _ => by have : (fl s x LL 0).length = 0 := rfl; omega⟩
  | succ m ih =>
    rcases Nat.lt_or_ge K (fl s x LL (m + 1)).length with h1 | h1
    · rcases Nat.lt_or_ge K (fl s x LL m).length with h2 | h2
      · obtain ⟨J, k1, k2, k3, k4⟩ := ih (by omega)
        rcases Nat.lt_or_ge J m with h3 | h3
        · exact ⟨J, by omega, k2, fun _ => k3 h3, fun h => by omega⟩
        · have := k4 (by omega); omega
      · exact ⟨m, by omega, h2, fun _ => h1, fun h => by omega⟩
    · exact ⟨m + 1, Nat.le_refl _, h1, fun h => absurd h (Nat.lt_irrefl _), fun _ => by omega⟩
end
/-- These are the nodes below a suffix of d numbers, in the order of the tree. -/
inductive Bel (D : List Int) (L : List (List Int)) (ts : List (Int × Int)) (n k : Nat) (R : Rat) : List Int → Nat → List (List Int) → Prop
  | leaf (s : List Int) : Bel D L ts n k R s n []
  | node (s : List Int) (d m : Nat) (LL : Nat → List (List Int)) (hd : d < n)
      (hz : ∀ j, j ≤ m → zl (nth (ctT D L ts s (n - 1) (n - 1 - d) d) j) ≤ k)
      (hw : ∀ j, j < m → ptT D L ts (s ++ [nth (ctT D L ts s (n - 1) (n - 1 - d) d) j]) (n - 1) (d + 1) ≤ R)
      (hn : ¬ ptT D L ts (s ++ [nth (ctT D L ts s (n - 1) (n - 1 - d) d) m]) (n - 1) (d + 1) ≤ R)
      (hB : ∀ j, j < m → Bel D L ts n k R (s ++ [nth (ctT D L ts s (n - 1) (n - 1 - d) d) j]) (d + 1) (LL j)) : Bel D L ts n k R s d (fl s (nth (ctT D L ts s (n - 1) (n - 1 - d) d)) LL m)
end Go.Proofs.YtekghdfbhbhigaaGreat.V
/- Search trees: the nodes below a suffix. -/
set_option linter.unusedVariables false
set_option linter.unusedSimpArgs false
set_option maxRecDepth 100000
namespace Go.Proofs.YtekghdfbhbhigaaGreat.V
open Go.RowKit Mt Nml
/-- What the function promises that goes through the nodes below a suffix. -/
def BelC (l : Nat) (D : List Int) (L : List (List Int)) (ts : List (Int × Int)) (a b : Int) (k n : Nat) (s : List Int) (d : Nat) (ns : List (List Int)) : Prop := ∀ (Z : Nat → Ent0) (zf : Ent0) (K : Nat), K ≤ ns.length → (∀ j, j < K → YOk Tryz.prog l (T.l (cZi k) (ns.getD j [])) (Z j) true (Z (j + 1))) → (K < ns.length → YOk Tryz.prog l (T.l (cZi k) (ns.getD K [])) (Z K) false zf) → (K = ns.length → zf = Z K) →
  Fn Tryz.prog 129 [T.Tr D L ts a b k, T.l (cZi k) s, T.Q (ptT D L ts s (n - 1) d) 15100000000, T.Y l] [(700, Ent.ab (Z 0))] [(700, Ent.ab zf)] [] (T.c (.bool (decide (K = ns.length))))

theorem t_below0 {D : List Int} {L : List (List Int)} {ts : List (Int × Int)} {a b : Int} {n k m : Nat} {q : Rat} (h : TrS D L ts n k) {s : List Int} {l : Nat} (hs : s.length = n) {zf : Ent0} : Fn Tryz.prog 129 [T.Tr D L ts a b k, T.l (cZi k) s, T.Q q m, T.Y l] [(700, Ent.ab zf)] [(700, Ent.ab zf)] [] (T.c (.bool true)) := by
  refine fn_ofM Tryz.func129 rfl (by show 4 ≤ 46; decide) fun cx hcx => ?_
  refine tri_sub (sl 0 rfl (sl 1 rfl (sl 2 rfl (sl 3 rfl sn)))) (el 700 rfl en) ?_
  have hlL := h.len
  refine tri_seq ?_
  refine tri_reg mixed hcx ?_ _ _
  refine bxs 10 rfl ?_
  refine bx 11 rfl ?_
  refine bxs 12 rfl ?_
  refine bx 13 rfl ?_
  refine nw 14 zeB ?_
  refine ⟨by kernel_rfl, ?_⟩
  refine nx (sl 4 rfl (sl 5 rfl (sl 6 rfl (sl 7 rfl (sl 8 rfl sn))))) (el 700 rfl (el 10 rfl (el 11 rfl (el 12 rfl (el 13 rfl (el 14 rfl en)))))) ?_
  refine tri_seq ?_
  refine tri_seq ?_
  refine tri_fzb 4 10 rfl rfl (fun h => Nat.noConfusion h) ?_
  refine tri_fzb 5 11 rfl rfl (fun h => Nat.noConfusion h) ?_
  refine tri_as 5 (Z := T.fp (T.l (cZi k) s)) rfl (fp_st1) ?_
  refine tri_fzb 6 12 rfl rfl (fun h => Nat.noConfusion h) ?_
  refine tri_fzb 7 13 rfl rfl (fun h => Nat.noConfusion h) ?_
  refine tri_as 7 (Z := T.fp (T.Y l)) rfl (fp_st1) ?_
  refine tri_reg mixed hcx ?_ _ _
  refine lf rfl tyZs ?_
  refine ln slZs rfl ?_
  refine ff rfl fTrG rfl ?_
  refine ff rfl fL rfl ?_
  refine lf rfl tyZss ?_
  refine ln slZss rfl ?_
  refine ceq rfl rfl (decide_eq_true (by omega)) ?_
  refine ⟨by kernel_rfl, ?_⟩
  refine nx (sl 4 rfl (sl 5 rfl (sl 6 rfl (sl 7 rfl (sl 8 rfl (sl 17 rfl sn)))))) (el 700 rfl (el 14 rfl en)) ?_
  refine tri_true rfl rfl ?_
  refine tri_seq ?_
  refine tri_reg mixed hcx ?_ _ _
  refine st rfl rfl rfl tyB rfl ?_
  refine ⟨by kernel_rfl, ?_⟩
  refine nx (sl 8 rfl sn) (el 700 rfl (el 14 rfl en)) ?_
  refine tri_ret ?_
  repeat (first | refine pn_thenr ?_ | refine pn_blkr ?_)
  refine ret_M0 (.inl rfl) ?_
  exact ret1 hcx rfl (rv_cell (c' := cx) (n := 0) rfl rfl tyB rfl) (.refl _) (el 700 rfl en)

theorem t_below1 {D : List Int} {L : List (List Int)} {ts : List (Int × Int)} {a b : Int} {n k : Nat} (h : TrS D L ts n k) {s : List Int} {l m : Nat} {LL : Nat → List (List Int)} {Z : Nat → Ent0} {zf : Ent0} {K : Nat} (hb : 0 < b) (hs : s.length + 1 ≤ n) (hz : ∀ j, zl (s.getD j 0) ≤ k) (hx : ∀ j, j ≤ m → zl (nth (ctT D L ts s (n - 1) (n - 1 - s.length) s.length) j) ≤ k) (hw : ∀ j, j < m → ptT D L ts (s ++ [nth (ctT D L ts s (n - 1) (n - 1 - s.length) s.length) j]) (n - 1) (s.length + 1) ≤ (a : Rat) / (b : Rat)) (hn : ¬ ptT D L ts (s ++ [nth (ctT D L ts s (n - 1) (n - 1 - s.length) s.length) m]) (n - 1) (s.length + 1) ≤ (a : Rat) / (b : Rat)) (IH : ∀ j, j < m → BelC l D L ts a b k n (s ++ [nth (ctT D L ts s (n - 1) (n - 1 - s.length) s.length) j]) (s.length + 1) (LL j)) (hK : K ≤ (fl s (nth (ctT D L ts s (n - 1) (n - 1 - s.length) s.length)) LL m).length) (hY : ∀ j, j < K → YOk Tryz.prog l (T.l (cZi k) ((fl s (nth (ctT D L ts s (n - 1) (n - 1 - s.length) s.length)) LL m).getD j [])) (Z j) true (Z (j + 1))) (hf : K < (fl s (nth (ctT D L ts s (n - 1) (n - 1 - s.length) s.length)) LL m).length → YOk Tryz.prog l (T.l (cZi k) ((fl s (nth (ctT D L ts s (n - 1) (n - 1 - s.length) s.length)) LL m).getD K [])) (Z K) false zf) (he : K = (fl s (nth (ctT D L ts s (n - 1) (n - 1 - s.length) s.length)) LL m).length → zf = Z K) : Fn Tryz.prog 129 [T.Tr D L ts a b k, T.l (cZi k) s, T.Q (ptT D L ts s (n - 1) s.length) 15100000000, T.Y l] [(700, Ent.ab (Z 0))] [(700, Ent.ab zf)] [] (T.c (.bool (decide (K = (fl s (nth (ctT D L ts s (n - 1) (n - 1 - s.length) s.length)) LL m).length)))) := by
  refine fn_ofM Tryz.func129 rfl (by show 4 ≤ 46; decide) fun cx hcx => ?_
  refine tri_sub (sl 0 rfl (sl 1 rfl (sl 2 rfl (sl 3 rfl sn)))) (el 700 rfl en) ?_
  have hlL := h.len
  have hkk := h.hk
  have hn12 := h.twelve
  obtain ⟨J, hJ, hJ1, hJ2, hJ3⟩ := fl_at s (nth (ctT D L ts s (n - 1) (n - 1 - s.length) s.length)) LL hK
  refine tri_seq ?_
  refine tri_reg mixed hcx ?_ _ _
  refine bxs 10 rfl ?_
  refine bx 11 rfl ?_
  refine bxs 12 rfl ?_
  refine bx 13 rfl ?_
  refine nw 14 zeB ?_
  refine ⟨by kernel_rfl, ?_⟩
  refine nx (sl 4 rfl (sl 5 rfl (sl 6 rfl (sl 7 rfl (sl 8 rfl sn))))) (el 700 rfl (el 10 rfl (el 11 rfl (el 12 rfl (el 13 rfl (el 14 rfl en)))))) ?_
  refine tri_seq ?_
  refine tri_seq ?_
  refine tri_fzb 4 10 rfl rfl (fun h => Nat.noConfusion h) ?_
  refine tri_fzb 5 11 rfl rfl (fun h => Nat.noConfusion h) ?_
  refine tri_as 5 (Z := T.fp (T.l (cZi k) s)) rfl (fp_st1) ?_
  refine tri_fzb 6 12 rfl rfl (fun h => Nat.noConfusion h) ?_
  refine tri_fzb 7 13 rfl rfl (fun h => Nat.noConfusion h) ?_
  refine tri_as 7 (Z := T.fp (T.Y l)) rfl (fp_st1) ?_
  refine tri_reg mixed hcx ?_ _ _
  refine lf rfl tyZs ?_
  refine ln slZs rfl ?_
  refine ff rfl fTrG rfl ?_
  refine ff rfl fL rfl ?_
  refine lf rfl tyZss ?_
  refine ln slZss rfl ?_
  refine ceq rfl rfl (decide_eq_false (by omega)) ?_
  refine ⟨by kernel_rfl, ?_⟩
  refine nx (sl 4 rfl (sl 5 rfl (sl 6 rfl (sl 7 rfl (sl 8 rfl (sl 17 rfl sn)))))) (el 700 rfl (el 14 rfl en)) ?_
  refine tri_false rfl rfl ?_
  refine tri_skip ?_
  refine nx (sl 4 rfl (sl 5 rfl (sl 6 rfl (sl 7 rfl (sl 8 rfl sn))))) (el 700 rfl (el 14 rfl en)) ?_
  refine tri_seq ?_
  refine tri_seq ?_
  rcases Nat.lt_or_eq_of_le hJ with hJm | hJm
  · have hJ4 := hJ2 hJm
    have hmm := fl_mono s (nth (ctT D L ts s (n - 1) (n - 1 - s.length) s.length)) LL (show J + 1 ≤ m by omega)
    refine tri_reg mixed hcx ?_ _ _
    refine lf rfl tyTr ?_
    refine lf rfl tyZs ?_
    refine lf rfl tyQ ?_
    refine ca rfl (h := t_kids) (hn := ?_)
    refine ⟨by kernel_rfl, ?_⟩
    refine nx (sl 4 rfl (sl 5 rfl (sl 7 rfl (sl 8 rfl (sl 21 rfl sn))))) (el 700 rfl (el 14 rfl en)) ?_
    refine tri_block ?_
    refine tri_range (ι := Nat) (κ := Unit) (f := 121) (Caps := [T.fp (T.Tr D L ts a b k), T.fp (T.l (cZi k) s), T.fp (T.Q (ptT D L ts s (n - 1) s.length) 15100000000)]) (R := T.tup []) (g' := [(4, T.fp (T.Tr D L ts a b k)), (5, T.fp (T.l (cZi k) s)), (7, T.fp (T.Y l)), (8, T.p 14 0)]) (fun j => [(14, some (Ent.box 4 [T.c (.bool false)])), (700, some (Ent.ab (Z (fl s (nth (ctT D L ts s (n - 1) (n - 1 - s.length) s.length)) LL j).length)))]) (fun _ => [(14, some (Ent.box 4 [T.c (.bool false)])), (700, some (Ent.ab zf))]) (fun _ => .ret) (fun j X o => (j < J ∧ X = (T.Ch (nth (ctT D L ts s (n - 1) (n - 1 - s.length) s.length) j) k (ptT D L ts (s ++ [nth (ctT D L ts s (n - 1) (n - 1 - s.length) s.length) j]) (n - 1) (s.length + 1)) 15100000000) ∧ o = .inl (j + 1)) ∨ (j = J ∧ X = (T.Ch (nth (ctT D L ts s (n - 1) (n - 1 - s.length) s.length) j) k (ptT D L ts (s ++ [nth (ctT D L ts s (n - 1) (n - 1 - s.length) s.length) j]) (n - 1) (s.length + 1)) 15100000000) ∧ o = .inr ())) (0) (.inr ()) rfl hcx rfl (by intro a w; kernel_rfl) (by decide) (sl 4 rfl (sl 5 rfl (sl 7 rfl (sl 8 rfl sn)))) (el 14 rfl (el 700 rfl en)) ?_ ?_ ?_ ?_
    · intro lw W V hW
      exact t_kids1 (Z := W) (zf := V ()) (K := J) h hb hs hz (fun j hj => hx j (by omega)) (fun j hj => hw j (by omega)) (fun j hj => hW j _ (.inl (j + 1)) (.inl ⟨hj, rfl, rfl⟩)) (.inr ⟨hw J hJm, hW J _ (.inr ()) (.inr ⟨rfl, rfl, rfl⟩)⟩)
    · rintro j X o (⟨_, rfl, _⟩ | ⟨_, rfl, _⟩) <;> rfl
    · rintro lr dB rr c' hrd hdf hcx' j X o (⟨hj, rfl, rfl⟩ | ⟨hj, rfl, rfl⟩)
      · have hmo2 := fl_mono s (nth (ctT D L ts s (n - 1) (n - 1 - s.length) s.length)) LL hJ
        have hoff := fl_len s (nth (ctT D L ts s (n - 1) (n - 1 - s.length) s.length)) LL j
        have hmo := fl_mono s (nth (ctT D L ts s (n - 1) (n - 1 - s.length) s.length)) LL (show j + 1 ≤ J by omega)
        have hYn := hY (fl s (nth (ctT D L ts s (n - 1) (n - 1 - s.length) s.length)) LL j).length (by omega)
        rw [fl_node s (nth (ctT D L ts s (n - 1) (n - 1 - s.length) s.length)) LL (show j < m by omega)] at hYn
        have hB := IH j (by omega) (fun i => Z ((fl s (nth (ctT D L ts s (n - 1) (n - 1 - s.length) s.length)) LL j).length + 1 + i)) (Z (fl s (nth (ctT D L ts s (n - 1) (n - 1 - s.length) s.length)) LL (j + 1)).length) (LL j).length (Nat.le_refl _) (fun i hi => by have := hY ((fl s (nth (ctT D L ts s (n - 1) (n - 1 - s.length) s.length)) LL j).length + 1 + i) (by omega); rwa [fl_below s (nth (ctT D L ts s (n - 1) (n - 1 - s.length) s.length)) LL (show j < m by omega) hi] at this) (fun h => absurd h (Nat.lt_irrefl _)) (fun _ => by rw [hoff])
        refine tri_reg mixed hcx' ?_ _ _
        refine nw 410 zeCh ?_
        refine sts rfl rfl rfl tyCh rfl ?_
        refine ⟨by kernel_rfl, ?_⟩
        refine nx_begin hrd rfl (sl 4 rfl (sl 5 rfl (sl 7 rfl (sl 8 rfl (sl 9 rfl sn))))) (el 702 rfl (el 701 rfl (el 14 rfl (el 700 rfl (el 410 rfl en))))) ?_
        refine tri_block ?_
        refine tri_seq ?_
        refine tri_reg mixed hcx' ?_ _ _
        refine lf rfl tyZs ?_
        refine ln slZs rfl ?_
        refine ad (((s.length + 1 : Nat) : Int)) rfl rfl rfl (by omega) ?_
        refine mk0 (c := cZi k) (n := s.length + 1) 513 slZs rfl rfl (by omega) (by decide) ?_
        refine lf rfl tyZs ?_
        refine ap 515 rfl rfl rfl slZs (by simp only [List.length_nil]; omega) (by decide) ?_
        refine fa rfl fChx 0 ?_
        refine ld rfl rfl tyZ rfl ?_
        refine bs (c := cZi k) (xs := [nth (ctT D L ts s (n - 1) (n - 1 - s.length) s.length) j]) slZs rfl ⟨z_zi _ _, trivial⟩ ?_
        refine ap 519 rfl rfl rfl slZs (by simp only [List.length_append, List.length_nil, List.length_cons]; omega) (by decide) ?_
        refine asg rfl ?_
        refine ⟨by kernel_rfl, ?_⟩
        refine nx (sl 4 rfl (sl 7 rfl (sl 8 rfl (sl 9 rfl (sl 10 rfl sn))))) (el 702 rfl (el 701 rfl (el 14 rfl (el 700 rfl (el 410 rfl (el 519 rfl en)))))) ?_
        refine tri_seq ?_
        refine tri_fz 519 rfl ?_
        refine tri_rd 10 519 rfl rfl ?_
        refine tri_reg mixed hcx' ?_ _ _
        refine lf rfl tyYs ?_
        refine mv rfl ?_
        refine yd (e := 700) rfl rfl rfl (hYn) (.refl _) ?_
        refine nt rfl _ rfl ?_
        refine mv rfl ?_
        refine lf rfl tyTr ?_ (hg := gd1)
        refine mv rfl ?_ (hg := gd1)
        refine fa rfl fChp 2 ?_ (hg := gd1)
        refine ld rfl rfl tyQ rfl ?_ (hg := gd1)
        refine lf rfl tyYs ?_ (hg := gd1)
        refine cas (hE := rfl) (e := 700) rfl (h := hB) (hn := ?_) (hg := gd1)
        refine nt rfl _ (show (!decide _) = false from by rw [decide_eq_true rfl]; rfl) ?_ (hg := gd1)
        refine pk rfl rfl ?_
        refine ⟨by kernel_rfl, ?_⟩
        refine nx (sl 8 rfl (sl 45 rfl sn)) (el 702 rfl (el 701 rfl (el 14 rfl (el 700 rfl (el 410 rfl en))))) ?_
        refine tri_false rfl rfl ?_
        refine tri_skip ?_
        refine pn_blk ?_
        exact rq_go (el 702 rfl (el 701 rfl (el 14 rfl (el 700 rfl en))))
      · obtain rfl : j = J := hj
        have hoff := fl_len s (nth (ctT D L ts s (n - 1) (n - 1 - s.length) s.length)) LL j
        have hmo := fl_mono s (nth (ctT D L ts s (n - 1) (n - 1 - s.length) s.length)) LL (show j + 1 ≤ m by omega)
        refine tri_reg mixed hcx' ?_ _ _
        refine nw 410 zeCh ?_
        refine sts rfl rfl rfl tyCh rfl ?_
        refine ⟨by kernel_rfl, ?_⟩
        refine nx_begin hrd rfl (sl 4 rfl (sl 5 rfl (sl 7 rfl (sl 8 rfl (sl 9 rfl sn))))) (el 702 rfl (el 701 rfl (el 14 rfl (el 700 rfl (el 410 rfl en))))) ?_
        refine tri_block ?_
        refine tri_seq ?_
        refine tri_reg mixed hcx' ?_ _ _
        refine lf rfl tyZs ?_
        refine ln slZs rfl ?_
        refine ad (((s.length + 1 : Nat) : Int)) rfl rfl rfl (by omega) ?_
        refine mk0 (c := cZi k) (n := s.length + 1) 513 slZs rfl rfl (by omega) (by decide) ?_
        refine lf rfl tyZs ?_
        refine ap 515 rfl rfl rfl slZs (by simp only [List.length_nil]; omega) (by decide) ?_
        refine fa rfl fChx 0 ?_
        refine ld rfl rfl tyZ rfl ?_
        refine bs (c := cZi k) (xs := [nth (ctT D L ts s (n - 1) (n - 1 - s.length) s.length) j]) slZs rfl ⟨z_zi _ _, trivial⟩ ?_
        refine ap 519 rfl rfl rfl slZs (by simp only [List.length_append, List.length_nil, List.length_cons]; omega) (by decide) ?_
        refine asg rfl ?_
        refine ⟨by kernel_rfl, ?_⟩
        refine nx (sl 4 rfl (sl 7 rfl (sl 8 rfl (sl 9 rfl (sl 10 rfl sn))))) (el 702 rfl (el 701 rfl (el 14 rfl (el 700 rfl (el 410 rfl (el 519 rfl en)))))) ?_
        refine tri_seq ?_
        rcases Nat.eq_or_lt_of_le hJ1 with hq | hq
        · have hfn := hf (by omega)
          rw [← hq, fl_node s (nth (ctT D L ts s (n - 1) (n - 1 - s.length) s.length)) LL hJm] at hfn
          refine tri_fz 519 rfl ?_
          refine tri_rd 10 519 rfl rfl ?_
          refine tri_reg mixed hcx' ?_ _ _
          refine lf rfl tyYs ?_
          refine mv rfl ?_
          refine yd (e := 700) rfl rfl rfl (hfn) (.refl _) ?_
          refine nt rfl _ rfl ?_
          refine mv rfl ?_
          refine j_off rfl rfl rfl rfl ?_
          refine j_off rfl rfl rfl rfl ?_
          refine j_off rfl rfl rfl rfl ?_
          refine j_off rfl rfl rfl rfl ?_
          refine j_off rfl rfl rfl rfl ?_
          refine j_off rfl rfl rfl rfl ?_
          refine j_off rfl rfl rfl rfl ?_
          refine pk rfl rfl ?_
          refine ⟨by kernel_rfl, ?_⟩
          refine nx (sl 8 rfl (sl 45 rfl sn)) (el 702 rfl (el 701 rfl (el 14 rfl (el 700 rfl (el 410 rfl en))))) ?_
          refine tri_true rfl rfl ?_
          refine tri_seq ?_
          refine tri_reg mixed hcx' ?_ _ _
          refine st rfl rfl rfl tyB rfl ?_
          refine ⟨by kernel_rfl, ?_⟩
          refine nx (sl 8 rfl sn) (el 702 rfl (el 701 rfl (el 14 rfl (el 700 rfl (el 410 rfl en))))) ?_
          refine tri_ret ?_
          repeat (first | refine pn_thenr ?_ | refine pn_blkr ?_)
          exact rq_ret (el 702 rfl (el 701 rfl (el 14 rfl (el 700 rfl en))))
        · have hYn := hY (fl s (nth (ctT D L ts s (n - 1) (n - 1 - s.length) s.length)) LL j).length hq
          rw [fl_node s (nth (ctT D L ts s (n - 1) (n - 1 - s.length) s.length)) LL hJm] at hYn
          have hKe : K = (fl s (nth (ctT D L ts s (n - 1) (n - 1 - s.length) s.length)) LL j).length + 1 + (K - (fl s (nth (ctT D L ts s (n - 1) (n - 1 - s.length) s.length)) LL j).length - 1) := by omega
          have hB := IH j hJm (fun i => Z ((fl s (nth (ctT D L ts s (n - 1) (n - 1 - s.length) s.length)) LL j).length + 1 + i)) zf (K - (fl s (nth (ctT D L ts s (n - 1) (n - 1 - s.length) s.length)) LL j).length - 1) (by omega) (fun i hi => by have := hY ((fl s (nth (ctT D L ts s (n - 1) (n - 1 - s.length) s.length)) LL j).length + 1 + i) (by omega); rwa [fl_below s (nth (ctT D L ts s (n - 1) (n - 1 - s.length) s.length)) LL hJm (by omega)] at this) (fun h => by have := hf (by omega); rw [hKe, fl_below s (nth (ctT D L ts s (n - 1) (n - 1 - s.length) s.length)) LL hJm (by omega)] at this; exact this) (fun h => absurd h (by omega))
          refine tri_fz 519 rfl ?_
          refine tri_rd 10 519 rfl rfl ?_
          refine tri_reg mixed hcx' ?_ _ _
          refine lf rfl tyYs ?_
          refine mv rfl ?_
          refine yd (e := 700) rfl rfl rfl (hYn) (.refl _) ?_
          refine nt rfl _ rfl ?_
          refine mv rfl ?_
          refine lf rfl tyTr ?_ (hg := gd1)
          refine mv rfl ?_ (hg := gd1)
          refine fa rfl fChp 2 ?_ (hg := gd1)
          refine ld rfl rfl tyQ rfl ?_ (hg := gd1)
          refine lf rfl tyYs ?_ (hg := gd1)
          refine cas (hE := rfl) (e := 700) rfl (h := hB) (hn := ?_) (hg := gd1)
          refine nt rfl _ (show (!decide _) = true from by rw [decide_eq_false (by omega)]; rfl) ?_ (hg := gd1)
          refine pk rfl rfl ?_
          refine ⟨by kernel_rfl, ?_⟩
          refine nx (sl 8 rfl (sl 45 rfl sn)) (el 702 rfl (el 701 rfl (el 14 rfl (el 700 rfl (el 410 rfl en))))) ?_
          refine tri_true rfl rfl ?_
          refine tri_seq ?_
          refine tri_reg mixed hcx' ?_ _ _
          refine st rfl rfl rfl tyB rfl ?_
          refine ⟨by kernel_rfl, ?_⟩
          refine nx (sl 8 rfl sn) (el 702 rfl (el 701 rfl (el 14 rfl (el 700 rfl (el 410 rfl en))))) ?_
          refine tri_ret ?_
          repeat (first | refine pn_thenr ?_ | refine pn_blkr ?_)
          exact rq_ret (el 702 rfl (el 701 rfl (el 14 rfl (el 700 rfl en))))
    · intro lr dB oo
      refine done_stop ?_
      refine tri_ret ?_
      repeat (first | refine pn_thenr ?_ | refine pn_blkr ?_)
      refine ret_M1 (.inl rfl) rfl rfl ?_
      exact ret1 hcx rfl (rv_cell (c' := cx) (n := 0) rfl rfl tyB rfl) (.of (by rw [decide_eq_false (by omega)])) (el 700 rfl en)
  · have hKm := hJ3 hJm
    refine tri_reg mixed hcx ?_ _ _
    refine lf rfl tyTr ?_
    refine lf rfl tyZs ?_
    refine lf rfl tyQ ?_
    refine ca rfl (h := t_kids) (hn := ?_)
    refine ⟨by kernel_rfl, ?_⟩
    refine nx (sl 4 rfl (sl 5 rfl (sl 7 rfl (sl 8 rfl (sl 21 rfl sn))))) (el 700 rfl (el 14 rfl en)) ?_
    refine tri_block ?_
    refine tri_range (ι := Nat) (κ := Unit) (f := 121) (Caps := [T.fp (T.Tr D L ts a b k), T.fp (T.l (cZi k) s), T.fp (T.Q (ptT D L ts s (n - 1) s.length) 15100000000)]) (R := T.tup []) (g' := [(4, T.fp (T.Tr D L ts a b k)), (5, T.fp (T.l (cZi k) s)), (7, T.fp (T.Y l)), (8, T.p 14 0)]) (fun j => [(14, some (Ent.box 4 [T.c (.bool false)])), (700, some (Ent.ab (Z (fl s (nth (ctT D L ts s (n - 1) (n - 1 - s.length) s.length)) LL j).length)))]) (fun _ => [(14, some (Ent.box 4 [T.c (.bool false)])), (700, some (Ent.ab zf))]) (fun _ => .ret) (fun j X o => j < m ∧ X = (T.Ch (nth (ctT D L ts s (n - 1) (n - 1 - s.length) s.length) j) k (ptT D L ts (s ++ [nth (ctT D L ts s (n - 1) (n - 1 - s.length) s.length) j]) (n - 1) (s.length + 1)) 15100000000) ∧ o = .inl (j + 1)) (0) (.inl m) rfl hcx rfl (by intro a w; kernel_rfl) (by decide) (sl 4 rfl (sl 5 rfl (sl 7 rfl (sl 8 rfl sn)))) (el 14 rfl (el 700 rfl en)) ?_ ?_ ?_ ?_
    · intro lw W V hW
      exact t_kids1 (Z := W) (zf := W m) (K := m) h hb hs hz hx hw (fun j hj => hW j _ (.inl (j + 1)) ⟨hj, rfl, rfl⟩) (.inl ⟨hn, rfl⟩)
    · rintro j X o ⟨_, rfl, _⟩ <;> rfl
    · rintro lr dB rr c' hrd hdf hcx' j X o ⟨hj, rfl, rfl⟩
      · have hoff := fl_len s (nth (ctT D L ts s (n - 1) (n - 1 - s.length) s.length)) LL j
        have hmo := fl_mono s (nth (ctT D L ts s (n - 1) (n - 1 - s.length) s.length)) LL (show j + 1 ≤ m by omega)
        have hYn := hY (fl s (nth (ctT D L ts s (n - 1) (n - 1 - s.length) s.length)) LL j).length (by omega)
        rw [fl_node s (nth (ctT D L ts s (n - 1) (n - 1 - s.length) s.length)) LL (show j < m by omega)] at hYn
        have hB := IH j (by omega) (fun i => Z ((fl s (nth (ctT D L ts s (n - 1) (n - 1 - s.length) s.length)) LL j).length + 1 + i)) (Z (fl s (nth (ctT D L ts s (n - 1) (n - 1 - s.length) s.length)) LL (j + 1)).length) (LL j).length (Nat.le_refl _) (fun i hi => by have := hY ((fl s (nth (ctT D L ts s (n - 1) (n - 1 - s.length) s.length)) LL j).length + 1 + i) (by omega); rwa [fl_below s (nth (ctT D L ts s (n - 1) (n - 1 - s.length) s.length)) LL (show j < m by omega) hi] at this) (fun h => absurd h (Nat.lt_irrefl _)) (fun _ => by rw [hoff])
        refine tri_reg mixed hcx' ?_ _ _
        refine nw 410 zeCh ?_
        refine sts rfl rfl rfl tyCh rfl ?_
        refine ⟨by kernel_rfl, ?_⟩
        refine nx_begin hrd rfl (sl 4 rfl (sl 5 rfl (sl 7 rfl (sl 8 rfl (sl 9 rfl sn))))) (el 702 rfl (el 701 rfl (el 14 rfl (el 700 rfl (el 410 rfl en))))) ?_
        refine tri_block ?_
        refine tri_seq ?_
        refine tri_reg mixed hcx' ?_ _ _
        refine lf rfl tyZs ?_
        refine ln slZs rfl ?_
        refine ad (((s.length + 1 : Nat) : Int)) rfl rfl rfl (by omega) ?_
        refine mk0 (c := cZi k) (n := s.length + 1) 513 slZs rfl rfl (by omega) (by decide) ?_
        refine lf rfl tyZs ?_
        refine ap 515 rfl rfl rfl slZs (by simp only [List.length_nil]; omega) (by decide) ?_
        refine fa rfl fChx 0 ?_
        refine ld rfl rfl tyZ rfl ?_
        refine bs (c := cZi k) (xs := [nth (ctT D L ts s (n - 1) (n - 1 - s.length) s.length) j]) slZs rfl ⟨z_zi _ _, trivial⟩ ?_
        refine ap 519 rfl rfl rfl slZs (by simp only [List.length_append, List.length_nil, List.length_cons]; omega) (by decide) ?_
        refine asg rfl ?_
        refine ⟨by kernel_rfl, ?_⟩
        refine nx (sl 4 rfl (sl 7 rfl (sl 8 rfl (sl 9 rfl (sl 10 rfl sn))))) (el 702 rfl (el 701 rfl (el 14 rfl (el 700 rfl (el 410 rfl (el 519 rfl en)))))) ?_
        refine tri_seq ?_
        refine tri_fz 519 rfl ?_
        refine tri_rd 10 519 rfl rfl ?_
        refine tri_reg mixed hcx' ?_ _ _
        refine lf rfl tyYs ?_
        refine mv rfl ?_
        refine yd (e := 700) rfl rfl rfl (hYn) (.refl _) ?_
        refine nt rfl _ rfl ?_
        refine mv rfl ?_
        refine lf rfl tyTr ?_ (hg := gd1)
        refine mv rfl ?_ (hg := gd1)
        refine fa rfl fChp 2 ?_ (hg := gd1)
        refine ld rfl rfl tyQ rfl ?_ (hg := gd1)
        refine lf rfl tyYs ?_ (hg := gd1)
        refine cas (hE := rfl) (e := 700) rfl (h := hB) (hn := ?_) (hg := gd1)
        refine nt rfl _ (show (!decide _) = false from by rw [decide_eq_true rfl]; rfl) ?_ (hg := gd1)
        refine pk rfl rfl ?_
        refine ⟨by kernel_rfl, ?_⟩
        refine nx (sl 8 rfl (sl 45 rfl sn)) (el 702 rfl (el 701 rfl (el 14 rfl (el 700 rfl (el 410 rfl en))))) ?_
        refine tri_false rfl rfl ?_
        refine tri_skip ?_
        refine pn_blk ?_
        exact rq_go (el 702 rfl (el 701 rfl (el 14 rfl (el 700 rfl en))))
    · intro lr dB oo
      refine done_go ?_
      refine pn_blk ?_
      refine nx (sl 8 rfl sn) (el 702 rfl (el 701 rfl (el 14 rfl (el 700 rfl en)))) ?_
      refine tri_seq ?_
      refine tri_reg mixed (show (cx.up.put dB).I = _ from hcx) ?_ _ _
      refine st rfl rfl rfl tyB rfl ?_
      refine ⟨by kernel_rfl, ?_⟩
      refine nx (sl 8 rfl sn) (el 702 rfl (el 701 rfl (el 14 rfl (el 700 rfl en)))) ?_
      refine tri_ret ?_
      repeat (first | refine pn_thenr ?_ | refine pn_blkr ?_)
      refine ret_M1 (.inl rfl) rfl rfl ?_
      exact ret1 hcx rfl (rv_cell (c' := cx) (n := 0) rfl rfl tyB rfl) (.of (by rw [decide_eq_true hKm])) (ew 700 rfl (.of (by rw [he hKm, hKm])) en)

theorem t_below {D : List Int} {L : List (List Int)} {ts : List (Int × Int)} {a b : Int} {n k : Nat} (h : TrS D L ts n k) (hb : 0 < b) {l : Nat} {s : List Int} {d : Nat} {ns : List (List Int)} (hB : Bel D L ts n k ((a : Rat) / (b : Rat)) s d ns) : s.length = d → (∀ j, zl (s.getD j 0) ≤ k) → BelC l D L ts a b k n s d ns := by
  induction hB with
  | leaf s =>
    intro hs hz Z zf K hK hY hf he
    obtain rfl : K = 0 := by simpa using hK
    obtain rfl := he rfl
    exact t_below0 h hs
  | node s d m LL hd hzz hw hn hB ih =>
    intro hs hz Z zf K hK hY hf he
    subst hs
    exact t_below1 h hb (by omega) hz hzz hw hn (fun j hj => ih j hj (by simp) (zl_snoc hz (hzz j (by omega)))) hK hY hf he
end Go.Proofs.YtekghdfbhbhigaaGreat.V
/- How many nodes have how many numbers. -/
set_option linter.unusedVariables false
set_option maxRecDepth 100000
namespace Go.Proofs.YtekghdfbhbhigaaGreat.V
open Go.RowKit Mt Nml
/-- How many of the first j have how many numbers. -/
def cnt (n : Nat) (ns : List (List Int)) : Nat → List Int
  | 0 => List.replicate n 0
  | j + 1 => (cnt n ns j).set ((ns.getD j []).length - 1) ((cnt n ns j).getD ((ns.getD j []).length - 1) 0 + 1)
theorem cnt_len (n : Nat) (ns : List (List Int)) : ∀ j, (cnt n ns j).length = n
  | 0 => List.length_replicate
  | j + 1 => by
    show ((cnt n ns j).set _ _).length = n
    rw [List.length_set]
    exact cnt_len n ns j
theorem getD_setI (l : List Int) (i k : Nat) (v : Int) : (l.set i v).getD k 0 = if i = k ∧ i < l.length then v else l.getD k 0 := by
  simp only [List.getD_eq_getElem?_getD, List.getElem?_set]
  by_cases h : i = k
  · subst h
    by_cases h2 : i < l.length
    · simp [h2]
    · simp [h2]
  · simp [h]
theorem cnt_b (n : Nat) (ns : List (List Int)) : ∀ j i, 0 ≤ (cnt n ns j).getD i 0 ∧ (cnt n ns j).getD i 0 ≤ j
  | 0, i => by
    show 0 ≤ (List.replicate n (0 : Int)).getD i 0 ∧ (List.replicate n (0 : Int)).getD i 0 ≤ ((0 : Nat) : Int)
    have : (List.replicate n (0 : Int)).getD i 0 = 0 := by
      simp only [List.getD_eq_getElem?_getD, List.getElem?_replicate]
      split <;> rfl
    rw [this]
    exact ⟨Int.le_refl _, by omega⟩
  | j + 1, i => by
    have h1 := cnt_b n ns j i
    have h2 := cnt_b n ns j ((ns.getD j []).length - 1)
    show 0 ≤ ((cnt n ns j).set _ _).getD i 0 ∧ ((cnt n ns j).set _ _).getD i 0 ≤ _
    rw [getD_setI]
    split <;> omega
theorem Bel.len {D : List Int} {L : List (List Int)} {ts : List (Int × Int)} {n k : Nat} {R : Rat} {s : List Int} {d : Nat} {ns : List (List Int)} (h : Bel D L ts n k R s d ns) : s.length = d → ∀ i, i < ns.length → d < (ns.getD i []).length ∧ (ns.getD i []).length ≤ n := by
  induction h with
  | leaf s => exact fun _ i hi => absurd hi (Nat.not_lt_zero _)
  | node s d m LL hd hz hw hn hB ih =>
    intro hs i hi
    subst hs
    obtain ⟨J, k1, k2, k3, k4⟩ := fl_at s (nth (ctT D L ts s (n - 1) (n - 1 - s.length) s.length)) LL (Nat.le_of_lt hi)
    have hJ : J < m := by
      rcases Nat.lt_or_ge J m with h | h
      · exact h
      · have := k4 (by omega); omega
    have k5 := k3 hJ
    rw [fl_len] at k5
    have h1 := fl_get s (nth (ctT D L ts s (n - 1) (n - 1 - s.length) s.length)) LL hJ (i - (fl s (nth (ctT D L ts s (n - 1) (n - 1 - s.length) s.length)) LL J).length) (by omega)
    rw [show (fl s (nth (ctT D L ts s (n - 1) (n - 1 - s.length) s.length)) LL J).length + (i - (fl s (nth (ctT D L ts s (n - 1) (n - 1 - s.length) s.length)) LL J).length) = i by omega] at h1
    rw [h1]
    rcases Nat.eq_zero_or_pos (i - (fl s (nth (ctT D L ts s (n - 1) (n - 1 - s.length) s.length)) LL J).length) with h0 | h0
    · rw [h0]
      show s.length < (s ++ [_]).length ∧ (s ++ [_]).length ≤ n
      rw [List.length_append]
      exact ⟨Nat.lt_succ_self _, hd⟩
    · obtain ⟨i', hi'⟩ : ∃ i', i - (fl s (nth (ctT D L ts s (n - 1) (n - 1 - s.length) s.length)) LL J).length = i' + 1 := ⟨i - (fl s (nth (ctT D L ts s (n - 1) (n - 1 - s.length) s.length)) LL J).length - 1, by omega⟩
      rw [hi']
      have := ih J hJ (by simp) i' (by omega)
      exact ⟨by have := this.1; show s.length < ((LL J).getD i' []).length; omega, this.2⟩
end Go.Proofs.YtekghdfbhbhigaaGreat.V
/- Search trees: nodes counted. -/
set_option linter.unusedVariables false
set_option linter.unusedSimpArgs false
set_option maxRecDepth 100000
namespace Go.Proofs.YtekghdfbhbhigaaGreat.V
open Go.RowKit Mt Nml
/-- Numbers of the machine. -/
def cI : Cod Int := ⟨fun a => T.c (.int .i64 a), 1, 0, fun _ => rfl, fun _ => rfl, by decide⟩
theorem tyIs : Ty Tryz.prog 58 false 1 := ⟨by kernel_rfl, by kernel_rfl⟩
theorem slIs : SlT Tryz.prog 58 3 1 8 := SlT.mk (.int .i64 0)
theorem zeIs : Zero Tryz.prog 58 [T.c (.slice none 0 0)] := zero_of (zs := [.slice none 0 0]) (z := .slice none 0 0) (by kernel_rfl)
theorem zvI : (Tryz.prog.info? 3).bind (·.zero) = some (.int .i64 0) := by kernel_rfl
theorem zrI (u : World) : (cI.X cI.dflt).rep B0 u (.int .i64 0) := rfl

theorem t_root {D : List Int} {L : List (List Int)} {ts : List (Int × Int)} {a b : Int} {n k : Nat} (h : TrS D L ts n k) (hb : 0 < b) {l : Nat} {Z : Nat → Ent0} {zf : Ent0} {ns : List (List Int)} {K : Nat} (hB : Bel D L ts n k ((a : Rat) / (b : Rat)) [] 0 ns) (hK : K ≤ ns.length) (hY : ∀ j, j < K → YOk Tryz.prog l (T.l (cZi k) (ns.getD j [])) (Z j) true (Z (j + 1))) (hf : K < ns.length → YOk Tryz.prog l (T.l (cZi k) (ns.getD K [])) (Z K) false zf) (he : K = ns.length → zf = Z K) : Fn Tryz.prog 129 [T.Tr D L ts a b k, T.c (.slice none 0 0), T.Q ((0 : Int) : Rat) (2 + 2), T.Y l] [(700, Ent.ab (Z 0))] [(700, Ent.ab zf)] [] (T.c (.bool (decide (K = ns.length)))) :=
  fn_le (t_below h hb hB rfl (fun j => by rw [show (([] : List Int)).getD j 0 = 0 from by simp, zl_zero]; exact Nat.zero_le _) Z zf K hK hY hf he) ⟨.refl _, nil_l _, q_qb (by rfl) (QB.mono (QB.int (z := 0) (k := 0) (by rw [zl_zero]; exact Nat.le_refl _)) (by omega)), .refl _, trivial⟩

theorem t_each1 {D : List Int} {L : List (List Int)} {ts : List (Int × Int)} {a b : Int} {n k : Nat} (h : TrS D L ts n k) (hb : 0 < b) {l : Nat} {Z : Nat → Ent0} {zf : Ent0} {ns : List (List Int)} {K : Nat} (hB : Bel D L ts n k ((a : Rat) / (b : Rat)) [] 0 ns) (hK : K ≤ ns.length) (hY : ∀ j, j < K → YOk Tryz.prog l (T.l (cZi k) (ns.getD j [])) (Z j) true (Z (j + 1))) (hf : K < ns.length → YOk Tryz.prog l (T.l (cZi k) (ns.getD K [])) (Z K) false zf) (he : K = ns.length → zf = Z K) : Fn Tryz.prog 128 [T.Y l, T.fp (T.Tr D L ts a b k)] [(700, Ent.ab (Z 0))] [(700, Ent.ab zf)] [] (T.tup []) := by
  refine fn_of Tryz.func128 rfl (by show 2 ≤ 8; decide) fun cx hcx => ?_
  refine tri_sub (sl 0 rfl (sl 1 rfl sn)) (el 700 rfl en) ?_
  refine tri_reg mixed hcx ?_ _ _
  refine lf rfl tyTr ?_
  refine ca rfl (h := zi_Of (by omega) (by omega)) (hn := ?_)
  refine ca rfl (h := rat_Of (by omega)) (hn := ?_)
  refine mv rfl ?_
  refine cas (hE := rfl) (e := 700) rfl (h := t_root h hb hB hK hY hf he) (hn := ?_)
  refine ⟨by kernel_rfl, ?_⟩
  refine pn_off ?_
  exact ret0 hcx rfl  (.refl _) (el 700 rfl en)

theorem t_each {D : List Int} {L : List (List Int)} {ts : List (Int × Int)} {a b : Int} {k : Nat} : Fn Tryz.prog 76 [T.Tr D L ts a b k] [] [] [] (T.fn 128 [T.fp (T.Tr D L ts a b k)]) := by
  refine fn_of Tryz.func76 rfl (by show 1 ≤ 4; decide) fun cx hcx => ?_
  refine tri_sub (sl 0 rfl sn) en ?_
  refine tri_seq ?_
  refine tri_reg mixed hcx ?_ _ _
  refine bxs 10 rfl ?_
  refine asg rfl ?_
  refine ⟨by kernel_rfl, ?_⟩
  refine nx (sl 1 rfl sn) (el 10 rfl en) ?_
  refine tri_seq ?_
  refine tri_fzb 1 10 rfl rfl (fun h => Nat.noConfusion h) ?_
  refine tri_reg mixed hcx ?_ _ _
  refine mf rfl ?_
  refine asg rfl ?_
  refine ⟨by kernel_rfl, ?_⟩
  refine nx (sl 2 rfl sn) en ?_
  refine tri_ret ?_
  repeat (first | refine pn_thenr ?_ | refine pn_blkr ?_)
  exact ret1 hcx rfl (rv_tmp rfl) (.refl _) en

theorem t_counted {D : List Int} {L : List (List Int)} {ts : List (Int × Int)} {a b : Int} {n k : Nat} (h : TrS D L ts n k) {s : List Int} (hb : 0 < b) (ha : 0 ≤ a) {m mo : Nat} (hs : s.length ≤ m) (hsl : s.length ≤ 1048576) (hmo : mo ≤ 65536) : Fn Tryz.prog 63 [T.Tr D L ts a b k, T.l (cZi k) s, T.c (.int .i64 (m : Int)), T.c (.int .i64 (mo : Int))] [] [] [] (T.c (.int .i64 0)) := by
  refine fn_of Tryz.func63 rfl (by show 4 ≤ 23; decide) fun cx hcx => ?_
  refine tri_sub (sl 0 rfl (sl 1 rfl (sl 2 rfl (sl 3 rfl sn)))) en ?_
  refine tri_seq ?_
  refine tri_reg mixed hcx ?_ _ _
  refine bxs 10 rfl ?_
  refine asg rfl ?_
  refine ⟨by kernel_rfl, ?_⟩
  refine nx (sl 1 rfl (sl 2 rfl (sl 3 rfl (sl 4 rfl sn)))) (el 10 rfl en) ?_
  refine tri_seq ?_
  refine tri_seq ?_
  refine tri_reg mixed hcx ?_ _ _
  refine ld rfl rfl tyTr rfl ?_
  refine mv rfl ?_
  refine mv rfl ?_
  refine ca rfl (h := t_fits h hb ha (m := m) (by omega) (by omega)) (hn := ?_)
  refine asg rfl ?_
  refine ⟨by kernel_rfl, ?_⟩
  refine nx (sl 3 rfl (sl 9 rfl sn)) (el 10 rfl en) ?_
  refine tri_seq ?_
  refine tri_reg mixed hcx ?_ _ _
  refine mv rfl ?_
  refine cne rfl rfl (decide_eq_false (by omega)) ?_
  refine ⟨by kernel_rfl, ?_⟩
  refine nx (sl 3 rfl (sl 9 rfl (sl 15 rfl sn))) (el 10 rfl en) ?_
  refine tri_false rfl rfl ?_
  refine tri_skip ?_
  refine nx (sl 3 rfl sn) (el 10 rfl en) ?_
  refine tri_seq ?_
  refine tri_seq ?_
  refine tri_reg mixed hcx ?_ _ _
  refine mv rfl ?_
  refine clt rfl rfl (decide_eq_false (by omega)) ?_
  refine mv rfl ?_
  refine mv rfl ?_ (hg := gd1)
  refine cgt rfl rfl (decide_eq_false (by omega)) ?_ (hg := gd1)
  refine pk rfl rfl ?_
  refine ⟨by kernel_rfl, ?_⟩
  refine nx (sl 22 rfl sn) (el 10 rfl en) ?_
  refine tri_false rfl rfl ?_
  refine tri_skip ?_
  refine nx sn (el 10 rfl en) ?_
  refine tri_seq ?_
  refine tri_reg mixed hcx ?_ _ _
  refine asg rfl ?_
  refine ⟨by kernel_rfl, ?_⟩
  refine nx (sl 8 rfl sn) (el 10 rfl en) ?_
  refine tri_ret ?_
  repeat (first | refine pn_thenr ?_ | refine pn_blkr ?_)
  exact ret1 hcx rfl (rv_tmp rfl) (.refl _) en

theorem t_Count {D : List Int} {L : List (List Int)} {ts : List (Int × Int)} {a b : Int} {n k : Nat} (h : TrS D L ts n k) (hb : 0 < b) (ha : 0 ≤ a) {ns : List (List Int)} {mo : Nat} (hmo : mo ≤ 65536) (hB : Bel D L ts n k ((a : Rat) / (b : Rat)) [] 0 ns) : Fn Tryz.prog 26 [T.Tr D L ts a b k, T.c (.int .i64 (mo : Int))] [] [] [] (T.tup [T.l cI (cnt n ns (if ns.length ≤ mo then ns.length else mo)), T.c (.bool (decide (ns.length ≤ mo))), T.c (.int .i64 0)]) := by
  refine fn_ofM Tryz.func26 rfl (by show 2 ≤ 40; decide) fun cx hcx => ?_
  refine tri_sub (sl 0 rfl (sl 1 rfl sn)) en ?_
  have hn12 := h.twelve
  have hkk := h.hk
  have hlL := h.len
  have hn0 := h.pos
  refine tri_seq ?_
  refine tri_reg mixed hcx ?_ _ _
  refine bxs 10 rfl ?_
  refine bx 11 rfl ?_
  refine nw 12 zeIs ?_
  refine nw 13 zeB ?_
  refine nw 14 zeE ?_
  refine ⟨by kernel_rfl, ?_⟩
  refine nx (sl 2 rfl (sl 3 rfl (sl 4 rfl (sl 5 rfl (sl 6 rfl sn))))) (el 10 rfl (el 11 rfl (el 12 rfl (el 13 rfl (el 14 rfl en))))) ?_
  refine tri_seq ?_
  refine tri_seq ?_
  refine tri_reg mixed hcx ?_ _ _
  refine ld rfl rfl tyTr rfl ?_
  refine ld rfl rfl tyI rfl ?_
  refine ca rfl (h := t_counted (s := []) (m := 0) h hb ha (Nat.le_refl _) (by simp) hmo) (hn := ?_)
  refine asg rfl ?_
  refine ⟨by kernel_rfl, ?_⟩
  refine nx (sl 2 rfl (sl 3 rfl (sl 4 rfl (sl 5 rfl (sl 6 rfl (sl 7 rfl sn)))))) (el 10 rfl (el 11 rfl (el 12 rfl (el 13 rfl (el 14 rfl en))))) ?_
  refine tri_seq ?_
  refine tri_reg mixed hcx ?_ _ _
  refine mv rfl ?_
  refine cne rfl rfl (decide_eq_false (by omega)) ?_
  refine ⟨by kernel_rfl, ?_⟩
  refine nx (sl 2 rfl (sl 3 rfl (sl 4 rfl (sl 5 rfl (sl 6 rfl (sl 7 rfl (sl 15 rfl sn))))))) (el 10 rfl (el 11 rfl (el 12 rfl (el 13 rfl (el 14 rfl en))))) ?_
  refine tri_false rfl rfl ?_
  refine tri_skip ?_
  refine nx (sl 2 rfl (sl 3 rfl (sl 4 rfl (sl 5 rfl (sl 6 rfl sn))))) (el 10 rfl (el 11 rfl (el 12 rfl (el 13 rfl (el 14 rfl en))))) ?_
  refine tri_seq ?_
  refine tri_reg mixed hcx ?_ _ _
  refine fa rfl fTrG 0 ?_
  refine fa rfl fL 1 ?_
  refine ld rfl rfl tyZss rfl ?_
  refine ln slZss rfl ?_
  refine mkz (c := cI) (n := L.length) 414 slIs rfl (by omega) (fun u => ⟨zvI, zrI u⟩) (by decide) ?_
  refine nw 415 zeIs ?_
  refine st rfl rfl rfl tyIs rfl ?_
  refine ⟨by kernel_rfl, ?_⟩
  refine nx (sl 2 rfl (sl 3 rfl (sl 4 rfl (sl 5 rfl (sl 6 rfl (sl 8 rfl sn)))))) (el 10 rfl (el 11 rfl (el 12 rfl (el 13 rfl (el 14 rfl (el 414 rfl (el 415 rfl en))))))) ?_
  refine tri_seq ?_
  refine tri_reg mixed hcx ?_ _ _
  refine nw 510 zeI ?_
  refine st rfl rfl rfl tyI rfl ?_
  refine ⟨by kernel_rfl, ?_⟩
  refine nx (sl 2 rfl (sl 3 rfl (sl 4 rfl (sl 5 rfl (sl 6 rfl (sl 8 rfl (sl 9 rfl sn))))))) (el 10 rfl (el 11 rfl (el 12 rfl (el 13 rfl (el 14 rfl (el 414 rfl (el 415 rfl (el 510 rfl en)))))))) ?_
  refine tri_seq ?_
  refine tri_seq ?_
  rcases Nat.lt_or_ge mo ns.length with hlt | hle
  · refine tri_reg mixed hcx ?_ _ _
    refine ld rfl rfl tyTr rfl ?_
    refine ca rfl (h := t_each) (hn := ?_)
    refine ⟨by kernel_rfl, ?_⟩
    refine nx (sl 3 rfl (sl 4 rfl (sl 5 rfl (sl 6 rfl (sl 8 rfl (sl 9 rfl (sl 23 rfl sn))))))) (el 10 rfl (el 11 rfl (el 12 rfl (el 13 rfl (el 14 rfl (el 414 rfl (el 415 rfl (el 510 rfl en)))))))) ?_
    refine tri_block ?_
    refine tri_range (ι := Nat) (κ := Unit) (f := 128) (Caps := [T.fp (T.Tr D L ts a b k)]) (R := T.tup []) (g' := [(3, T.p 11 0), (4, T.p 12 0), (5, T.p 13 0), (6, T.p 14 0), (8, T.p 415 0), (9, T.p 510 0)]) (fun j => [(11, some (Ent.box 3 [T.c (.int .i64 (mo : Int))])), (12, some (Ent.box 58 [T.c (.slice none 0 0)])), (13, some (Ent.box 4 [T.c (.bool false)])), (14, some (Ent.box 41 [T.c (.int .i64 0)])), (414, some (Ent.row cI 3 (cnt n ns j))), (415, some (Ent.box 58 [T.o 414])), (510, some (Ent.box 3 [T.c (.int .i64 ((j : Nat) : Int))]))]) (fun _ => [(11, some (Ent.box 3 [T.c (.int .i64 (mo : Int))])), (12, some (Ent.box 58 [T.o 414])), (13, some (Ent.box 4 [T.c (.bool false)])), (14, some (Ent.box 41 [T.c (.int .i64 0)])), (414, some (Ent.row cI 3 (cnt n ns mo))), (415, some (Ent.box 58 [T.o 414])), (510, some (Ent.box 3 [T.c (.int .i64 ((mo : Nat) : Int))]))]) (fun _ => .ret) (fun j X o => (j < mo ∧ X = T.l (cZi k) (ns.getD j []) ∧ o = .inl (j + 1)) ∨ (j = mo ∧ X = T.l (cZi k) (ns.getD j []) ∧ o = .inr ())) (0) (.inr ()) rfl hcx rfl (by intro a w; kernel_rfl) (by decide) (sl 3 rfl (sl 4 rfl (sl 5 rfl (sl 6 rfl (sl 8 rfl (sl 9 rfl sn)))))) (el 11 rfl (el 12 rfl (el 13 rfl (el 14 rfl (ew 414 rfl (.of (by rw [hlL]; rfl)) (el 415 rfl (el 510 rfl en))))))) ?_ ?_ ?_ ?_
    · intro lw W V hW
      exact t_each1 (Z := W) (zf := V ()) (K := mo) h hb hB (by omega) (fun j hj => hW j _ (.inl (j + 1)) (.inl ⟨hj, rfl, rfl⟩)) (fun _ => hW mo _ (.inr ()) (.inr ⟨rfl, rfl, rfl⟩)) (fun h => absurd h (by omega))
    · rintro j X o (⟨_, rfl, _⟩ | ⟨_, rfl, _⟩) <;> rfl
    · rintro lr dB rr c' hrd hdf hcx' j X o (⟨hj, rfl, rfl⟩ | ⟨hj, rfl, rfl⟩)
      · have hbl := hB.len rfl j (by omega)
        have hcl := cnt_len n ns j
        have hcb : 0 ≤ (cnt n ns j).getD ((ns.getD j []).length - 1) cI.dflt ∧ (cnt n ns j).getD ((ns.getD j []).length - 1) cI.dflt ≤ (j : Int) := cnt_b n ns j ((ns.getD j []).length - 1)
        refine tri_reg mixed hcx' ?_ _ _
        refine asg rfl ?_
        refine ⟨by kernel_rfl, ?_⟩
        refine nx_begin hrd rfl (sl 3 rfl (sl 4 rfl (sl 5 rfl (sl 6 rfl (sl 8 rfl (sl 9 rfl (sl 10 rfl sn))))))) (el 702 rfl (el 701 rfl (el 11 rfl (el 12 rfl (el 13 rfl (el 14 rfl (el 414 rfl (el 415 rfl (el 510 rfl en))))))))) ?_
        refine tri_block ?_
        refine tri_seq ?_
        refine tri_seq ?_
        refine tri_reg mixed hcx' ?_ _ _
        refine ld rfl rfl tyI rfl ?_
        refine ld rfl rfl tyI rfl ?_
        refine ceq rfl rfl (decide_eq_false (by omega)) ?_
        refine ⟨by kernel_rfl, ?_⟩
        refine nx (sl 4 rfl (sl 5 rfl (sl 6 rfl (sl 8 rfl (sl 9 rfl (sl 10 rfl (sl 27 rfl sn))))))) (el 702 rfl (el 701 rfl (el 11 rfl (el 12 rfl (el 13 rfl (el 14 rfl (el 414 rfl (el 415 rfl (el 510 rfl en))))))))) ?_
        refine tri_false rfl rfl ?_
        refine tri_skip ?_
        refine nx (sl 8 rfl (sl 9 rfl (sl 10 rfl sn))) (el 702 rfl (el 701 rfl (el 11 rfl (el 12 rfl (el 13 rfl (el 14 rfl (el 414 rfl (el 415 rfl (el 510 rfl en))))))))) ?_
        refine tri_seq ?_
        refine tri_reg mixed hcx' ?_ _ _
        refine ld rfl rfl tyIs rfl ?_
        refine mv rfl ?_
        refine ln slZs rfl ?_
        refine sb ((((ns.getD j []).length - 1 : Nat) : Int)) rfl rfl rfl (by omega) ?_
        refine ixo rfl rfl rfl slIs ⟨rfl, by omega⟩ ?_
        refine lo ((ns.getD j []).length - 1) rfl rfl tyI ⟨rfl, rfl, by omega⟩ ?_
        refine ad (((cnt n ns j).getD ((ns.getD j []).length - 1) cI.dflt + 1)) rfl rfl rfl (by omega) ?_
        refine ixo rfl rfl rfl slIs ⟨rfl, by omega⟩ ?_
        refine so rfl rfl rfl (.refl _) tyI ⟨rfl, by omega⟩ ?_
        refine ⟨by kernel_rfl, ?_⟩
        refine nx (sl 9 rfl sn) (el 702 rfl (el 701 rfl (el 11 rfl (el 12 rfl (el 13 rfl (el 14 rfl (el 414 rfl (el 415 rfl (el 510 rfl en))))))))) ?_
        refine tri_reg mixed hcx' ?_ _ _
        refine ld rfl rfl tyI rfl ?_
        refine ad (((j + 1 : Nat) : Int)) rfl rfl rfl (by omega) ?_
        refine st rfl rfl rfl tyI rfl ?_
        refine ⟨by kernel_rfl, ?_⟩
        refine pn_blk ?_
        exact rq_go (el 702 rfl (el 701 rfl (el 11 rfl (el 12 rfl (el 13 rfl (el 14 rfl (el 414 rfl (el 415 rfl (el 510 rfl en)))))))))
      · refine tri_reg mixed hcx' ?_ _ _
        refine asg rfl ?_
        refine ⟨by kernel_rfl, ?_⟩
        refine nx_begin hrd rfl (sl 3 rfl (sl 4 rfl (sl 5 rfl (sl 6 rfl (sl 8 rfl (sl 9 rfl (sl 10 rfl sn))))))) (el 702 rfl (el 701 rfl (el 11 rfl (el 12 rfl (el 13 rfl (el 14 rfl (el 414 rfl (el 415 rfl (el 510 rfl en))))))))) ?_
        refine tri_block ?_
        refine tri_seq ?_
        refine tri_seq ?_
        refine tri_reg mixed hcx' ?_ _ _
        refine ld rfl rfl tyI rfl ?_
        refine ld rfl rfl tyI rfl ?_
        refine ceq rfl rfl (decide_eq_true (by omega)) ?_
        refine ⟨by kernel_rfl, ?_⟩
        refine nx (sl 4 rfl (sl 5 rfl (sl 6 rfl (sl 8 rfl (sl 9 rfl (sl 10 rfl (sl 27 rfl sn))))))) (el 702 rfl (el 701 rfl (el 11 rfl (el 12 rfl (el 13 rfl (el 14 rfl (el 414 rfl (el 415 rfl (el 510 rfl en))))))))) ?_
        refine tri_true rfl rfl ?_
        refine tri_seq ?_
        refine tri_reg mixed hcx' ?_ _ _
        refine ld rfl rfl tyIs rfl ?_
        refine st rfl rfl rfl tyIs rfl ?_
        refine st rfl rfl rfl tyB rfl ?_
        refine st rfl rfl rfl tyE rfl ?_
        refine ⟨by kernel_rfl, ?_⟩
        refine nx (sl 4 rfl (sl 5 rfl (sl 6 rfl sn))) (el 702 rfl (el 701 rfl (el 11 rfl (el 12 rfl (el 13 rfl (el 14 rfl (el 414 rfl (el 415 rfl (el 510 rfl en))))))))) ?_
        refine tri_ret ?_
        repeat (first | refine pn_thenr ?_ | refine pn_blkr ?_)
        exact rq_ret (el 702 rfl (el 701 rfl (el 11 rfl (el 12 rfl (el 13 rfl (el 14 rfl (ew 414 rfl (.of (by rw [hj])) (el 415 rfl (ew 510 rfl (.of (by rw [hj])) en)))))))))
    · intro lr dB oo
      refine done_stop ?_
      refine tri_fz 414 rfl ?_
      refine tri_rdb (bl := [T.o 414]) (bl' := [T.l cI (cnt n ns mo)]) 12 414 rfl rfl ⟨.inr ⟨rfl, rfl⟩, trivial⟩ ?_
      refine tri_ret ?_
      repeat (first | refine pn_thenr ?_ | refine pn_blkr ?_)
      refine ret_M1 (.inl rfl) rfl rfl ?_
      exact ret3 hcx rfl (rv_cell (c' := cx) (n := 0) rfl rfl tyIs rfl) (rv_cell (c' := cx) (n := 0) rfl rfl tyB rfl) (rv_cell (c' := cx) (n := 0) rfl rfl tyE rfl) (tup_le ⟨.of (by rw [if_neg (by omega)]), .of (by rw [decide_eq_false (by omega)]), .refl _, trivial⟩) en
  · refine tri_reg mixed hcx ?_ _ _
    refine ld rfl rfl tyTr rfl ?_
    refine ca rfl (h := t_each) (hn := ?_)
    refine ⟨by kernel_rfl, ?_⟩
    refine nx (sl 3 rfl (sl 4 rfl (sl 5 rfl (sl 6 rfl (sl 8 rfl (sl 9 rfl (sl 23 rfl sn))))))) (el 10 rfl (el 11 rfl (el 12 rfl (el 13 rfl (el 14 rfl (el 414 rfl (el 415 rfl (el 510 rfl en)))))))) ?_
    refine tri_block ?_
    refine tri_range (ι := Nat) (κ := Unit) (f := 128) (Caps := [T.fp (T.Tr D L ts a b k)]) (R := T.tup []) (g' := [(3, T.p 11 0), (4, T.p 12 0), (5, T.p 13 0), (6, T.p 14 0), (8, T.p 415 0), (9, T.p 510 0)]) (fun j => [(11, some (Ent.box 3 [T.c (.int .i64 (mo : Int))])), (12, some (Ent.box 58 [T.c (.slice none 0 0)])), (13, some (Ent.box 4 [T.c (.bool false)])), (14, some (Ent.box 41 [T.c (.int .i64 0)])), (414, some (Ent.row cI 3 (cnt n ns j))), (415, some (Ent.box 58 [T.o 414])), (510, some (Ent.box 3 [T.c (.int .i64 ((j : Nat) : Int))]))]) (fun _ => [(11, some (Ent.box 3 [T.c (.int .i64 (mo : Int))])), (12, some (Ent.box 58 [T.o 414])), (13, some (Ent.box 4 [T.c (.bool false)])), (14, some (Ent.box 41 [T.c (.int .i64 0)])), (414, some (Ent.row cI 3 (cnt n ns mo))), (415, some (Ent.box 58 [T.o 414])), (510, some (Ent.box 3 [T.c (.int .i64 ((mo : Nat) : Int))]))]) (fun _ => .ret) (fun j X o => j < ns.length ∧ X = T.l (cZi k) (ns.getD j []) ∧ o = .inl (j + 1)) (0) (.inl ns.length) rfl hcx rfl (by intro a w; kernel_rfl) (by decide) (sl 3 rfl (sl 4 rfl (sl 5 rfl (sl 6 rfl (sl 8 rfl (sl 9 rfl sn)))))) (el 11 rfl (el 12 rfl (el 13 rfl (el 14 rfl (ew 414 rfl (.of (by rw [hlL]; rfl)) (el 415 rfl (el 510 rfl en))))))) ?_ ?_ ?_ ?_
    · intro lw W V hW
      exact t_each1 (Z := W) (zf := W ns.length) (K := ns.length) h hb hB (Nat.le_refl _) (fun j hj => hW j _ (.inl (j + 1)) ⟨hj, rfl, rfl⟩) (fun h => absurd h (Nat.lt_irrefl _)) (fun _ => rfl)
    · rintro j X o ⟨_, rfl, _⟩ <;> rfl
    · rintro lr dB rr c' hrd hdf hcx' j X o ⟨hj, rfl, rfl⟩
      · have hbl := hB.len rfl j (by omega)
        have hcl := cnt_len n ns j
        have hcb : 0 ≤ (cnt n ns j).getD ((ns.getD j []).length - 1) cI.dflt ∧ (cnt n ns j).getD ((ns.getD j []).length - 1) cI.dflt ≤ (j : Int) := cnt_b n ns j ((ns.getD j []).length - 1)
        refine tri_reg mixed hcx' ?_ _ _
        refine asg rfl ?_
        refine ⟨by kernel_rfl, ?_⟩
        refine nx_begin hrd rfl (sl 3 rfl (sl 4 rfl (sl 5 rfl (sl 6 rfl (sl 8 rfl (sl 9 rfl (sl 10 rfl sn))))))) (el 702 rfl (el 701 rfl (el 11 rfl (el 12 rfl (el 13 rfl (el 14 rfl (el 414 rfl (el 415 rfl (el 510 rfl en))))))))) ?_
        refine tri_block ?_
        refine tri_seq ?_
        refine tri_seq ?_
        refine tri_reg mixed hcx' ?_ _ _
        refine ld rfl rfl tyI rfl ?_
        refine ld rfl rfl tyI rfl ?_
        refine ceq rfl rfl (decide_eq_false (by omega)) ?_
        refine ⟨by kernel_rfl, ?_⟩
        refine nx (sl 4 rfl (sl 5 rfl (sl 6 rfl (sl 8 rfl (sl 9 rfl (sl 10 rfl (sl 27 rfl sn))))))) (el 702 rfl (el 701 rfl (el 11 rfl (el 12 rfl (el 13 rfl (el 14 rfl (el 414 rfl (el 415 rfl (el 510 rfl en))))))))) ?_
        refine tri_false rfl rfl ?_
        refine tri_skip ?_
        refine nx (sl 8 rfl (sl 9 rfl (sl 10 rfl sn))) (el 702 rfl (el 701 rfl (el 11 rfl (el 12 rfl (el 13 rfl (el 14 rfl (el 414 rfl (el 415 rfl (el 510 rfl en))))))))) ?_
        refine tri_seq ?_
        refine tri_reg mixed hcx' ?_ _ _
        refine ld rfl rfl tyIs rfl ?_
        refine mv rfl ?_
        refine ln slZs rfl ?_
        refine sb ((((ns.getD j []).length - 1 : Nat) : Int)) rfl rfl rfl (by omega) ?_
        refine ixo rfl rfl rfl slIs ⟨rfl, by omega⟩ ?_
        refine lo ((ns.getD j []).length - 1) rfl rfl tyI ⟨rfl, rfl, by omega⟩ ?_
        refine ad (((cnt n ns j).getD ((ns.getD j []).length - 1) cI.dflt + 1)) rfl rfl rfl (by omega) ?_
        refine ixo rfl rfl rfl slIs ⟨rfl, by omega⟩ ?_
        refine so rfl rfl rfl (.refl _) tyI ⟨rfl, by omega⟩ ?_
        refine ⟨by kernel_rfl, ?_⟩
        refine nx (sl 9 rfl sn) (el 702 rfl (el 701 rfl (el 11 rfl (el 12 rfl (el 13 rfl (el 14 rfl (el 414 rfl (el 415 rfl (el 510 rfl en))))))))) ?_
        refine tri_reg mixed hcx' ?_ _ _
        refine ld rfl rfl tyI rfl ?_
        refine ad (((j + 1 : Nat) : Int)) rfl rfl rfl (by omega) ?_
        refine st rfl rfl rfl tyI rfl ?_
        refine ⟨by kernel_rfl, ?_⟩
        refine pn_blk ?_
        exact rq_go (el 702 rfl (el 701 rfl (el 11 rfl (el 12 rfl (el 13 rfl (el 14 rfl (el 414 rfl (el 415 rfl (el 510 rfl en)))))))))
    · intro lr dB oo
      refine done_go ?_
      refine pn_blk ?_
      refine nx (sl 4 rfl (sl 5 rfl (sl 6 rfl (sl 8 rfl sn)))) (el 702 rfl (el 701 rfl (el 11 rfl (el 12 rfl (el 13 rfl (el 14 rfl (el 414 rfl (el 415 rfl (el 510 rfl en))))))))) ?_
      refine tri_seq ?_
      refine tri_reg mixed (show (cx.up.put dB).I = _ from hcx) ?_ _ _
      refine ld rfl rfl tyIs rfl ?_
      refine st rfl rfl rfl tyIs rfl ?_
      refine st rfl rfl rfl tyB rfl ?_
      refine st rfl rfl rfl tyE rfl ?_
      refine ⟨by kernel_rfl, ?_⟩
      refine nx (sl 4 rfl (sl 5 rfl (sl 6 rfl sn))) (el 702 rfl (el 701 rfl (el 11 rfl (el 12 rfl (el 13 rfl (el 14 rfl (el 414 rfl (el 415 rfl (el 510 rfl en))))))))) ?_
      refine tri_fz 414 rfl ?_
      refine tri_rdb (bl := [T.o 414]) (bl' := [T.l cI (cnt n ns ns.length)]) 12 414 rfl rfl ⟨.inr ⟨rfl, rfl⟩, trivial⟩ ?_
      refine tri_ret ?_
      repeat (first | refine pn_thenr ?_ | refine pn_blkr ?_)
      refine ret_M1 (.inl rfl) rfl rfl ?_
      exact ret3 hcx rfl (rv_cell (c' := cx) (n := 0) rfl rfl tyIs rfl) (rv_cell (c' := cx) (n := 0) rfl rfl tyB rfl) (rv_cell (c' := cx) (n := 0) rfl rfl tyE rfl) (tup_le ⟨.of (by rw [if_pos hle]), .of (by rw [decide_eq_true hle]), .refl _, trivial⟩) en
end Go.Proofs.YtekghdfbhbhigaaGreat.V
/- Search trees: the call whose answer is known. -/
set_option linter.unusedVariables false
set_option linter.unusedSimpArgs false
set_option maxRecDepth 100000
namespace Go.Proofs.YtekghdfbhbhigaaGreat.V
open Go.RowKit Mt Nml
section
variable {P : Program} {ops : Array Oper} {fin : List OpS → List (Nat × T) → List (Nat × Option Ent) → Prop} {r : List Oper} {H : List OpS} {g : List (Nat × T)} {E : List (Nat × Option Ent)} {o : Oper}
variable {t : Option Nat} {ty : TypeId} {ps : String} {af : Array Edge} {gd : Option (Nat × Bool)} {x y : Operand} {X Y : T} {e off m : Nat} {b : Bool} {l l' : List T} {et : TypeId}
/-- A slice without elements. -/
theorem bs0 {α : Type} {τ : TypeId} {sz bytes : Nat} (c : Cod α) (hT : SlT P et τ sz bytes) (hn : J P ops fin r (OpS.p (T.l c []) :: H) (putg t (T.l c []) g) E) (hg : GuardIs ops g ⟨t, .buildSlice et 0 #[], ty, ps, af, gd⟩ true := by exact gd0) : J P ops fin (⟨t, .buildSlice et 0 #[], ty, ps, af, gd⟩ :: r) H g E :=
  j_val hg (fun ρ β u w F hs he hH => by
    obtain ⟨ht, inf, z, hi, hz0, hz1, hz2, hzc⟩ := hT.info
    have hsf : (sizeOf τ).run P w = .ok sz w := by simp [sizeOf, typeInfo, hi, hz1]
    have hr : (Instr.buildSlice et 0 #[]).run P w = .ok (.slice (some ⟨w.heap.size, 0, none⟩) 0 0) (w.alloc (.cells #[] τ (0, 0))) := by
      unfold Instr.buildSlice
      simp only [Sem.run_bind, run_underlying ht, Result.andThen_ok, hsf]
      rw [if_neg (by omega)]
      simp [newRow, Instr.fill]
      rw [Array.eq_empty_of_size_eq_zero (show (Array.map (fun _ : Nat => (default : Value)) (Array.range 0)).size = 0 by simp)]
    unfold Res
    simp only [execOp, Array.map_empty, Sem.run_bind, hr, Result.andThen_ok, Sem.run_pure]
    exact ⟨u, β, F, fun _ _ => rfl, tr_alloc hs _, Hold.none _ _ _ _, (fun e X k h => by cases h), _, 0, 0, rfl, rfl, Nat.le_refl _, by omega, fun h => absurd h (by omega)⟩) hn
end
theorem tr_flat {A B C D E : T} : (T.st [T.st [A, B], C, T.st [D, E]]).le (T.st [A, B, C, D, E]) := fun β u v ⟨cs, e, v1, r1, _, ⟨cs1, e1, c1⟩, e2, v2, r2, h2, hv2, e3, v3, r3, _, ⟨cs3, e4, c3⟩, e5, e6⟩ => by
  refine ⟨cs, e, ?_⟩
  have h6 : r3 = [] := e6
  subst e1 e4 h6
  have hc : Cells β u ([C] ++ [D, E]) (v2.cells.toList ++ cs3) := Cells.append (l := [C]) ⟨v2, [], h2, hv2, (List.append_nil _).symm, rfl⟩ c3
  have := Cells.append c1 hc
  rw [e2, e3, e5]
  simpa [Value.cells] using this
theorem stTr : StructT Tryz.prog 39 [T.c (.slice none 0 0), T.c (.slice none 0 0), T.c (.slice none 0 0), T.c (.bool false), T.c (.slice none 0 0), T.c (.bool false), T.c (.slice none 0 0)] [(0, 2), (2, 1), (3, 4)] := StructT.mk' (zs := [.slice none 0 0, .slice none 0 0, .slice none 0 0, .bool false, .slice none 0 0, .bool false, .slice none 0 0])
theorem zeTr : Zero Tryz.prog 39 [T.c (.slice none 0 0), T.c (.slice none 0 0), T.c (.slice none 0 0), T.c (.bool false), T.c (.slice none 0 0), T.c (.bool false), T.c (.slice none 0 0)] := zero_of (zs := [.slice none 0 0, .slice none 0 0, .slice none 0 0, .bool false, .slice none 0 0, .bool false, .slice none 0 0]) (z := .agg #[.slice none 0 0, .slice none 0 0, .slice none 0 0, .bool false, .slice none 0 0, .bool false, .slice none 0 0]) (by kernel_rfl)

theorem l11_n {z : Int} (h0 : -9223372036854775808 ≤ z) (h1 : z < 9223372036854775808) : Fn Tryz.prog 14 [T.c (.int .i64 z)] [] [] [] (T.Z z 2) := by
  refine fn_of Tryz.func14 rfl (by show 1 ≤ 5; decide) fun cx hcx => ?_
  refine tri_sub (sl 0 rfl sn) en ?_
  refine tri_seq ?_
  refine tri_reg mixed hcx ?_ _ _
  refine nw 10 zeZ ?_
  refine ⟨by kernel_rfl, ?_⟩
  refine nx (sl 0 rfl (sl 2 rfl sn)) (el 10 rfl en) ?_
  refine tri_seq ?_
  refine tri_reg mixed hcx ?_ _ _
  refine mv rfl ?_
  refine ca rfl (h := r02_Of h0 h1) (hn := ?_)
  refine st rfl rfl rfl tyZ rfl ?_
  refine ⟨by kernel_rfl, ?_⟩
  refine nx (sl 2 rfl sn) (el 10 rfl en) ?_
  refine tri_ret ?_
  repeat (first | refine pn_thenr ?_ | refine pn_blkr ?_)
  exact ret1 hcx rfl (rv_cell (c' := cx) (n := 0) rfl rfl tyZ rfl) (.refl _) en

theorem l11_small  : Fn Tryz.prog 51 [] [] [] [] (T.Tr [1, 1, 1] [[], [0]] [] 1 1 2) := by
  refine fn_of Tryz.func51 rfl (by show 0 ≤ 14; decide) fun cx hcx => ?_
  refine tri_sub sn en ?_
  refine tri_seq ?_
  refine tri_reg mixed hcx ?_ _ _
  refine nw 10 zeTr ?_
  refine ⟨by kernel_rfl, ?_⟩
  refine nx (sl 0 rfl sn) (el 10 rfl en) ?_
  refine tri_seq ?_
  refine tri_reg mixed hcx ?_ _ _
  refine ca rfl (h := l11_n (by decide) (by decide)) (hn := ?_)
  refine ca rfl (h := l11_n (by decide) (by decide)) (hn := ?_)
  refine ca rfl (h := l11_n (by decide) (by decide)) (hn := ?_)
  refine bs (c := cZ 2) (xs := [1, 1, 1]) slZs rfl ⟨.refl _, .refl _, .refl _, trivial⟩ ?_
  refine bs0 (cZ 2) slZs ?_
  refine ca rfl (h := l11_n (by decide) (by decide)) (hn := ?_)
  refine bs (c := cZ 2) (xs := [0]) slZs rfl ⟨.refl _, trivial⟩ ?_
  refine bs (c := cL (cZ 2)) (xs := [[], [0]]) slZss rfl ⟨.refl _, .refl _, trivial⟩ ?_
  refine bu stG rfl ?_
  refine ca rfl (h := l11_n (by decide) (by decide)) (hn := ?_)
  refine ca rfl (h := l11_n (by decide) (by decide)) (hn := ?_)
  refine bu stQ rfl ?_
  refine bu stTr rfl ?_
  refine sts rfl rfl rfl tyTr rfl ?_
  refine ⟨by kernel_rfl, ?_⟩
  refine nx (sl 0 rfl sn) (el 10 rfl en) ?_
  refine tri_ret ?_
  repeat (first | refine pn_thenr ?_ | refine pn_blkr ?_)
  exact ret1 hcx rfl (rv_cell (c' := cx) (n := 0) rfl rfl tyTr rfl) (tr_flat.trans (st_le ⟨IsL.le (c := cZi 2), IsL.le (c := cL (cZi 2)), nil_l _, z_zi _ _, z_zi _ _, trivial⟩)) en

abbrev D0 : List Int := [1, 1, 1]
abbrev L0 : List (List Int) := [[], [0]]
theorem small_T : TrS D0 L0 [] 2 2 where
  good := ⟨by decide, by decide, by decide, fun i hi => by match i, hi with | 0, _ => decide | 1, _ => decide⟩
  len := rfl
  twelve := by decide
  tl := .inl rfl
  tp := fun i hi => absurd hi (Nat.not_lt_zero _)
  zt := fun i hi => absurd hi (Nat.not_lt_zero _)
  zD := fun j => by
    match j with
    | 0 => exact Nat.le_trans zl_one (by decide)
    | 1 => exact Nat.le_trans zl_one (by decide)
    | 2 => exact Nat.le_trans zl_one (by decide)
    | j + 3 => rw [show D0.getD (j + 3) 0 = 0 from rfl, zl_zero]; decide
  zL := fun i j => by
    have : ((L0.getD j [] : List Int).getD i 0) = 0 := by
      match j, i with
      | 0, _ => rfl
      | 1, 0 => rfl
      | 1, i + 1 => rfl
      | j + 2, _ => rfl
    rw [this, zl_zero]; decide
  hk := by decide
def chk (s : List Int) (d m : Nat) : Bool := (List.range (m + 1)).all fun j => decide (-9 ≤ nth (ctT D0 L0 [] s (2 - 1) (2 - 1 - d) d) j) && decide (nth (ctT D0 L0 [] s (2 - 1) (2 - 1 - d) d) j ≤ 9) && (decide (ptT D0 L0 [] (s ++ [nth (ctT D0 L0 [] s (2 - 1) (2 - 1 - d) d) j]) (2 - 1) (d + 1) ≤ ((1 : Int) : Rat) / ((1 : Int) : Rat)) == decide (j < m))
theorem chk_node {s : List Int} {d m : Nat} (hd : d < 2) (h : chk s d m = true) (LL : Nat → List (List Int)) (hB : ∀ j, j < m → Bel D0 L0 [] 2 2 (((1 : Int) : Rat) / ((1 : Int) : Rat)) (s ++ [nth (ctT D0 L0 [] s (2 - 1) (2 - 1 - d) d) j]) (d + 1) (LL j)) : Bel D0 L0 [] 2 2 (((1 : Int) : Rat) / ((1 : Int) : Rat)) s d (fl s (nth (ctT D0 L0 [] s (2 - 1) (2 - 1 - d) d)) LL m) := by
  have hj : ∀ j, j ≤ m → (-9 ≤ nth (ctT D0 L0 [] s (2 - 1) (2 - 1 - d) d) j ∧ nth (ctT D0 L0 [] s (2 - 1) (2 - 1 - d) d) j ≤ 9) ∧ (ptT D0 L0 [] (s ++ [nth (ctT D0 L0 [] s (2 - 1) (2 - 1 - d) d) j]) (2 - 1) (d + 1) ≤ ((1 : Int) : Rat) / ((1 : Int) : Rat) ↔ j < m) := fun j hj => by
    have := List.all_eq_true.1 h j (by simp; omega)
    simp only [Bool.and_eq_true, decide_eq_true_eq, beq_iff_eq] at this
    obtain ⟨⟨a, b⟩, c⟩ := this
    exact ⟨⟨a, b⟩, decide_eq_decide.1 c⟩
  exact Bel.node s d m LL hd (fun j h => zl_of (by have := (hj j h).1; omega) (by have := (hj j h).1; omega)) (fun j h => (hj j (by omega)).2.2 h) (fun h => absurd ((hj m (Nat.le_refl _)).2.1 h) (Nat.lt_irrefl _)) hB
def sub1 (x : Int) (m : Nat) : List (List Int) := fl [x] (nth (ctT D0 L0 [] [x] (2 - 1) (2 - 1 - 1) 1)) (fun _ => []) m
theorem sub1_B {x : Int} {m : Nat} (h : chk [x] 1 m = true) : Bel D0 L0 [] 2 2 (((1 : Int) : Rat) / ((1 : Int) : Rat)) [x] 1 (sub1 x m) := chk_node (by decide) h _ fun j hj => Bel.leaf _
def LLs : Nat → List (List Int)
  | 0 => sub1 0 3
  | 1 => sub1 1 1
  | _ => sub1 (-1) 1
def all8 : List (List Int) := fl [] (nth (ctT D0 L0 [] [] (2 - 1) (2 - 1 - 0) 0)) LLs 3
theorem small_B : Bel D0 L0 [] 2 2 (((1 : Int) : Rat) / ((1 : Int) : Rat)) [] 0 all8 := chk_node (by decide) (by decide +kernel) _ fun j hj => by
  have e0 : nth (ctT D0 L0 [] [] (2 - 1) (2 - 1 - 0) 0) 0 = 0 := by decide +kernel
  have e1 : nth (ctT D0 L0 [] [] (2 - 1) (2 - 1 - 0) 0) 1 = 1 := by decide +kernel
  have e2 : nth (ctT D0 L0 [] [] (2 - 1) (2 - 1 - 0) 0) 2 = -1 := by decide +kernel
  match j, hj with
  | 0, _ => rw [e0]; exact sub1_B (by decide +kernel)
  | 1, _ => rw [e1]; exact sub1_B (by decide +kernel)
  | 2, _ => rw [e2]; exact sub1_B (by decide +kernel)
theorem all8_len : all8.length = 8 := by decide +kernel
theorem all8_cnt : cnt 2 all8 8 = [3, 5] := by decide +kernel

theorem t_Count8 : Fn Tryz.prog 26 [T.Tr D0 L0 [] 1 1 2, T.c (.int .i64 100)] [] [] [] (T.tup [T.l cI [3, 5], T.c (.bool true), T.c (.int .i64 0)]) := by
  have := t_Count small_T (a := 1) (b := 1) (by decide) (by decide) (mo := 100) (by decide) small_B
  rw [if_pos (by rw [all8_len]; decide), all8_len, all8_cnt] at this
  exact this

theorem l11_awake  : Fn Tryz.prog 10 [] [] [] [] (T.c (.bool true)) := by
  refine fn_of Tryz.func10 rfl (by show 0 ≤ 32; decide) fun cx hcx => ?_
  refine tri_sub sn en ?_
  refine tri_seq ?_
  refine tri_reg mixed hcx ?_ _ _
  refine asg rfl ?_
  refine ⟨by kernel_rfl, ?_⟩
  refine nx sn en ?_
  refine tri_seq ?_
  refine tri_reg mixed hcx ?_ _ _
  refine ca rfl (h := l11_small) (hn := ?_)
  refine ca rfl (h := t_Count8) (hn := ?_)
  refine mv rfl ?_
  refine ex rfl rfl ?_
  refine ex rfl rfl ?_
  refine ex rfl rfl ?_
  refine asg rfl ?_
  refine asg rfl ?_
  refine asg rfl ?_
  refine ⟨by kernel_rfl, ?_⟩
  refine nx (sl 1 rfl (sl 2 rfl (sl 3 rfl sn))) en ?_
  refine tri_seq ?_
  refine tri_reg mixed hcx ?_ _ _
  refine mv rfl ?_
  refine ceq rfl rfl rfl ?_
  refine mv rfl ?_
  refine mv rfl ?_ (hg := gd1)
  refine pk rfl rfl ?_
  refine mv rfl ?_
  refine mv rfl ?_ (hg := gd1)
  refine ln slIs rfl ?_ (hg := gd1)
  refine ceq rfl rfl rfl ?_ (hg := gd1)
  refine pk rfl rfl ?_
  refine mv rfl ?_
  refine mv rfl ?_ (hg := gd1)
  refine ix rfl rfl slIs ⟨rfl, by decide⟩ ?_ (hg := gd1)
  refine lf rfl tyI ?_ (hg := gd1)
  refine ceq rfl rfl rfl ?_ (hg := gd1)
  refine pk rfl rfl ?_
  refine mv rfl ?_
  refine mv rfl ?_ (hg := gd1)
  refine ix rfl rfl slIs ⟨rfl, by decide⟩ ?_ (hg := gd1)
  refine lf rfl tyI ?_ (hg := gd1)
  refine ceq rfl rfl rfl ?_ (hg := gd1)
  refine pk rfl rfl ?_
  refine asg rfl ?_
  refine ⟨by kernel_rfl, ?_⟩
  refine nx (sl 0 rfl sn) en ?_
  refine tri_ret ?_
  repeat (first | refine pn_thenr ?_ | refine pn_blkr ?_)
  exact ret1 hcx rfl (rv_tmp rfl) (.refl _) en
end Go.Proofs.YtekghdfbhbhigaaGreat.V
/- Search trees: nearer numbers come first. -/
set_option linter.unusedVariables false
set_option linter.unusedSimpArgs false
set_option maxRecDepth 100000
namespace Go.Proofs.YtekghdfbhbhigaaGreat.V
open Go.RowKit Mt Nml
end Go.Proofs.YtekghdfbhbhigaaGreat.V
/- Search trees: the document's numbers about a centre. -/
set_option linter.unusedVariables false
set_option linter.unusedSimpArgs false
set_option maxRecDepth 100000
namespace Go.Proofs.YtekghdfbhbhigaaGreat.V
open Go.RowKit Mt Nml
theorem l11_whole {z : Int} {k l : Nat} (hk : k ≤ 17592186044416) : Fn Tryz.prog 30 [T.Z z k, T.Z z l] [] [] [] (T.c (.bool true)) := by
  refine fn_of Tryz.func30 rfl (by show 2 ≤ 38; decide) fun cx hcx => ?_
  refine tri_sub (sl 0 rfl (sl 1 rfl sn)) en ?_
  refine tri_z 0 rfl fun hz => ?_
  have hzl : (dig z.natAbs).length ≤ k := hz
  refine tri_seq ?_
  refine tri_reg mixed hcx ?_ _ _
  refine bxs 10 rfl ?_
  refine bxs 11 rfl ?_
  refine asg rfl ?_
  refine ⟨by kernel_rfl, ?_⟩
  refine nx (sl 2 rfl (sl 3 rfl sn)) (el 10 rfl (el 11 rfl en)) ?_
  refine tri_seq ?_
  refine tri_seq ?_
  refine tri_reg mixed hcx ?_ _ _
  refine fa rfl fNeg 0 ?_
  refine ld rfl rfl tyB rfl ?_
  refine fa rfl fNeg 0 ?_
  refine ld rfl rfl tyB rfl ?_
  refine neb (q := false) rfl rfl (by simp) ?_
  refine mv rfl ?_
  refine fa rfl fMag 1 ?_ (hg := gd1)
  refine ld rfl rfl tyLs rfl ?_ (hg := gd1)
  refine ln slLs rfl ?_ (hg := gd1)
  refine fa rfl fMag 1 ?_ (hg := gd1)
  refine ld rfl rfl tyLs rfl ?_ (hg := gd1)
  refine ln slLs rfl ?_ (hg := gd1)
  refine cne rfl rfl (decide_eq_false (by omega)) ?_ (hg := gd1)
  refine pk rfl rfl ?_
  refine ⟨by kernel_rfl, ?_⟩
  refine nx (sl 2 rfl (sl 3 rfl (sl 19 rfl sn))) (el 10 rfl (el 11 rfl en)) ?_
  refine tri_false rfl rfl ?_
  refine tri_skip ?_
  refine nx (sl 2 rfl (sl 3 rfl sn)) (el 10 rfl (el 11 rfl en)) ?_
  refine tri_seq ?_
  refine tri_seq ?_
  refine tri_reg mixed hcx ?_ _ _
  refine asg rfl ?_
  refine ⟨by kernel_rfl, ?_⟩
  refine nx (sl 2 rfl (sl 3 rfl (sl 5 rfl sn))) (el 10 rfl (el 11 rfl en)) ?_
  refine tri_block ?_
  refine tri_loop (ι := Nat) (fun i => [(2, T.p 10 0), (3, T.p 11 0), (5, T.c (.int .i64 (i : Int)))]) (fun i => [(10, some (Ent.box 32 [T.c (.bool (decide (z < 0))), T.l cU (dig (z).natAbs)])), (11, some (Ent.box 32 [T.c (.bool (decide (z < 0))), T.l cU (dig (z).natAbs)]))]) (fun i => (dig z.natAbs).length - i) (fun i => (i ≤ (dig z.natAbs).length)) 0 (Nat.zero_le _) (sl 2 rfl (sl 3 rfl (sl 5 rfl sn))) (el 10 rfl (el 11 rfl en)) ?_
  rintro i hi
  refine tri_sub (sl 2 rfl (sl 3 rfl (sl 5 rfl sn))) (el 10 rfl (el 11 rfl en)) ?_
  refine tri_seq ?_
  refine tri_seq ?_
  refine tri_reg mixed hcx ?_ _ _
  refine mv rfl ?_
  refine fa rfl fMag 1 ?_
  refine ld rfl rfl tyLs rfl ?_
  refine ln slLs rfl ?_
  refine clt rfl rfl rfl ?_
  refine ⟨by kernel_rfl, ?_⟩
  refine nx (sl 2 rfl (sl 3 rfl (sl 5 rfl (sl 24 rfl sn)))) (el 10 rfl (el 11 rfl en)) ?_
  refine tri_if rfl (fun hc => ?_) (fun hc => ?_)
  · refine tri_skip ?_
    refine nx (sl 2 rfl (sl 3 rfl (sl 5 rfl sn))) (el 10 rfl (el 11 rfl en)) ?_
    refine tri_seq ?_
    refine tri_block ?_
    refine tri_seq ?_
    refine tri_reg mixed hcx ?_ _ _
    refine fa rfl fMag 1 ?_
    refine ld rfl rfl tyLs rfl ?_
    refine mv rfl ?_
    refine ix rfl rfl slLs ⟨rfl, by omega⟩ ?_
    refine lf rfl tyU32 ?_
    refine fa rfl fMag 1 ?_
    refine ld rfl rfl tyLs rfl ?_
    refine mv rfl ?_
    refine ix rfl rfl slLs ⟨rfl, by omega⟩ ?_
    refine lf rfl tyU32 ?_
    refine cne rfl rfl (decide_eq_false (by omega)) ?_
    refine ⟨by kernel_rfl, ?_⟩
    refine nx (sl 2 rfl (sl 3 rfl (sl 5 rfl (sl 37 rfl sn)))) (el 10 rfl (el 11 rfl en)) ?_
    refine tri_false rfl rfl ?_
    refine tri_skip ?_
    refine pn_blk ?_
    refine nx (sl 2 rfl (sl 3 rfl (sl 5 rfl sn))) (el 10 rfl (el 11 rfl en)) ?_
    refine tri_reg mixed hcx ?_ _ _
    refine mv rfl ?_
    refine ad (((i + 1 : Nat) : Int)) rfl rfl rfl (by omega) ?_
    refine asg rfl ?_
    refine ⟨by kernel_rfl, ?_⟩
    exact pn_back (i + 1) (by first | omega | (dsimp only; omega)) (by omega) (sl 2 rfl (sl 3 rfl (sl 5 rfl sn))) (el 10 rfl (el 11 rfl en))
  · refine tri_exit ?_
    repeat (first | refine pn_then ?_ | refine pn_oth (by decide) ?_)
    refine pn_ex ?_
    refine nx sn (el 10 rfl (el 11 rfl en)) ?_
    refine tri_seq ?_
    refine tri_reg mixed hcx ?_ _ _
    refine asg rfl ?_
    refine ⟨by kernel_rfl, ?_⟩
    refine nx (sl 4 rfl sn) (el 10 rfl (el 11 rfl en)) ?_
    refine tri_ret ?_
    repeat (first | refine pn_thenr ?_ | refine pn_blkr ?_)
    exact ret1 hcx rfl (rv_tmp rfl) (.refl _) en

theorem fdiv_is {a b x : Int} (hb : 0 < b) (h1 : b * x ≤ a) (h2 : a < b * x + b) : Int.fdiv a b = x := by
  rw [Int.fdiv_eq_ediv_of_nonneg _ (by omega)]
  exact ediv_is hb h1 h2
/-- The quotient of sizes, and what is left: the number's sign put back. -/
theorem quo_abs {a b : Int} (hb : 0 < b) : (¬ a < 0 → intv false (a.natAbs / b.natAbs) = Int.fdiv a b ∧ 0 ≤ a - intv false (a.natAbs / b.natAbs) * b) ∧
    (a < 0 → a - intv true (a.natAbs / b.natAbs) * b ≤ 0 ∧ (a - intv true (a.natAbs / b.natAbs) * b = 0 → intv true (a.natAbs / b.natAbs) = Int.fdiv a b) ∧ (¬ a - intv true (a.natAbs / b.natAbs) * b = 0 → intv true (a.natAbs / b.natAbs) - 1 = Int.fdiv a b)) := by
  have hN : 0 < b.natAbs := by omega
  have e := Nat.div_add_mod a.natAbs b.natAbs
  have hm := Nat.mod_lt a.natAbs hN
  have hbe : ((b.natAbs : Nat) : Int) = b := by omega
  have ee : b * ((a.natAbs / b.natAbs : Nat) : Int) + ((a.natAbs % b.natAbs : Nat) : Int) = (a.natAbs : Int) := by
    have := congrArg (fun x : Nat => (x : Int)) e
    simp only [Int.natCast_add, Int.natCast_mul] at this
    rwa [hbe] at this
  unfold intv
  simp only [Bool.false_eq_true, if_false, if_true]
  have hm2 : ((a.natAbs % b.natAbs : Nat) : Int) < b := by omega
  generalize ((a.natAbs / b.natAbs : Nat) : Int) = q at *
  generalize hte : ((a.natAbs % b.natAbs : Nat) : Int) = t at *
  have ht0 : 0 ≤ t := by omega
  have c1 : q * b = b * q := Int.mul_comm _ _
  have c2 : -q * b = -(b * q) := by rw [Int.neg_mul, c1]
  have c3 : b * -q = -(b * q) := Int.mul_neg _ _
  have c4 : b * (-q - 1) = -(b * q) - b := by rw [Int.mul_sub, c3, Int.mul_one]
  rw [c1, c2]
  refine ⟨fun h => ⟨(fdiv_is hb (by omega) (by omega)).symm, by omega⟩, fun h => ⟨by omega, fun h2 => (fdiv_is hb (by rw [c3]; omega) (by rw [c3]; omega)).symm, fun h2 => (fdiv_is hb (by rw [c4]; omega) (by rw [c4]; omega)).symm⟩⟩
theorem sg_nz {r : Int} : (r = 0 → sg r = 0) ∧ (r < 0 → sg r = -1) ∧ (0 < r → sg r = 1) := ⟨fun h => by rw [h]; exact sg_zero, fun h => sg_neg h, fun h => sg_pos h⟩
theorem dig_le {N k : Nat} (h : lim N ≤ k) : (T.l cU (dig N)).le (T.L N k) := l_L (dig_lim _) (dig_val _) h
theorem r01_DivD {M N k l : Nat} (hN0 : 0 < N) (hk : k ≤ 68719476736) (hl : l ≤ 68719476736) (h1 : lim M ≤ k) (h2 : lim N ≤ l) : Fn Tryz.prog 168 [T.l cU (dig M), T.l cU (dig N)] [] [] [] (T.tup [T.l cU (dig (M / N)), T.l cU (dig (M % N)), T.c (.int .i64 0)]) := fn_le (r01_Div hN0 (by omega) (by omega) h2) ⟨dig_le h1, dig_le h2, trivial⟩
theorem r02_madeD {s : Bool} {N k : Nat} (hk : k ≤ 68719476736) (h : lim N ≤ k) : Fn Tryz.prog 110 [T.c (.bool s), T.l cU (dig N)] [] [] [] (T.Z (intv s N) k) := fn_le (r02_made (by omega)) ⟨.refl _, dig_le h, trivial⟩
theorem lim_quo {M N k : Nat} (h : lim M ≤ k) : lim (M / N) ≤ k := Nat.le_trans (lim_mono (Nat.div_le_self _ _)) h

theorem r02_Floor {a b : Int} {k l : Nat} (hb : 0 < b) (hk : k ≤ 68719476736) (hl : l ≤ 68719476736) : Fn Tryz.prog 156 [T.Z a k, T.Z b l] [] [] [] (T.tup [T.Z (Int.fdiv a b) (k + 8), T.Z (a - Int.fdiv a b * b) (3 * k + 3 * l + 16)]) := by
  refine fn_of Tryz.func156 rfl (by show 2 ≤ 50; decide) fun cx hcx => ?_
  refine tri_sub (sl 0 rfl (sl 1 rfl sn)) en ?_
  refine tri_z 0 rfl fun hza => ?_
  refine tri_z 1 rfl fun hzb => ?_
  have hzb2 : zl b ≤ l := hzb
  have hza2 : zl a ≤ k := hza
  have hqa := quo_abs (a := a) hb
  have hsb : sg b = 1 := sg_pos hb
  refine tri_seq ?_
  refine tri_reg mixed hcx ?_ _ _
  refine bxs 10 rfl ?_
  refine bxs 11 rfl ?_
  refine nw 12 zeZ ?_
  refine nw 13 zeZ ?_
  refine ⟨by kernel_rfl, ?_⟩
  refine nx (sl 2 rfl (sl 3 rfl (sl 4 rfl (sl 5 rfl sn)))) (el 10 rfl (el 11 rfl (el 12 rfl (el 13 rfl en)))) ?_
  refine tri_seq ?_
  refine tri_reg mixed hcx ?_ _ _
  refine fa rfl fMag 1 ?_
  refine ld rfl rfl tyLs rfl ?_
  refine fa rfl fMag 1 ?_
  refine ld rfl rfl tyLs rfl ?_
  refine ca rfl (h := r01_DivD (M := a.natAbs) (N := b.natAbs) (k := k) (l := l) (by omega) (by omega) (by omega) hza hzb) (hn := ?_)
  refine mv rfl ?_
  refine ex rfl rfl ?_
  refine ex rfl rfl ?_
  refine ex rfl rfl ?_
  refine asg rfl ?_
  refine asg rfl ?_
  refine asg rfl ?_
  refine ⟨by kernel_rfl, ?_⟩
  refine nx (sl 2 rfl (sl 3 rfl (sl 4 rfl (sl 5 rfl (sl 6 rfl sn))))) (el 10 rfl (el 11 rfl (el 12 rfl (el 13 rfl en)))) ?_
  refine tri_seq ?_
  by_cases ha : a < 0
  · obtain ⟨hr1, hr2, hr3⟩ := hqa.2 ha
    refine tri_reg mixed hcx ?_ _ _
    refine fa rfl fNeg 0 ?_
    refine ld rfl rfl tyB rfl ?_
    refine fa rfl fNeg 0 ?_
    refine ld rfl rfl tyB rfl ?_
    refine neb (q := true) rfl rfl (by rw [decide_eq_true ha, decide_eq_false (by omega)]; rfl) ?_
    refine mv rfl ?_
    refine ca rfl (h := r02_madeD (s := true) (N := (a.natAbs / b.natAbs)) (k := k) (by omega) (lim_quo hza)) (hn := ?_)
    refine nw 217 zeZ ?_
    refine st rfl rfl rfl tyZ rfl ?_
    refine ⟨by kernel_rfl, ?_⟩
    refine nx (sl 2 rfl (sl 3 rfl (sl 4 rfl (sl 5 rfl (sl 9 rfl sn))))) (el 10 rfl (el 11 rfl (el 12 rfl (el 13 rfl (el 217 rfl en))))) ?_
    refine tri_seq ?_
    refine tri_reg mixed hcx ?_ _ _
    refine ld rfl rfl tyZ rfl ?_
    refine ld rfl rfl tyZ rfl ?_
    refine ld rfl rfl tyZ rfl ?_
    refine ca rfl (h := r02_Mul (by omega) (by omega)) (hn := ?_)
    refine ca rfl (h := r02_Sub (by omega) (by omega)) (hn := ?_)
    refine nw 315 zeZ ?_
    refine st rfl rfl rfl tyZ rfl ?_
    refine ⟨by kernel_rfl, ?_⟩
    refine nx (sl 3 rfl (sl 4 rfl (sl 5 rfl (sl 9 rfl (sl 10 rfl sn))))) (el 10 rfl (el 11 rfl (el 12 rfl (el 13 rfl (el 217 rfl (el 315 rfl en)))))) ?_
    refine tri_seq ?_
    refine tri_seq ?_
    by_cases hr : a - intv true (a.natAbs / b.natAbs) * b = 0
    · have hsr := sg_nz.1 hr
      refine tri_reg mixed hcx ?_ _ _
      refine ld rfl rfl tyZ rfl ?_
      refine ca rfl (h := r02_Sign (by omega)) (hn := ?_)
      refine cne rfl rfl (decide_eq_false (by omega)) ?_
      refine mv rfl ?_
      refine j_off rfl rfl rfl rfl ?_
      refine j_off rfl rfl rfl rfl ?_
      refine j_off rfl rfl rfl rfl ?_
      refine j_off rfl rfl rfl rfl ?_
      refine j_off rfl rfl rfl rfl ?_
      refine pk rfl rfl ?_
      refine ⟨by kernel_rfl, ?_⟩
      refine nx (sl 3 rfl (sl 4 rfl (sl 5 rfl (sl 9 rfl (sl 10 rfl (sl 41 rfl sn)))))) (el 10 rfl (el 11 rfl (el 12 rfl (el 13 rfl (el 217 rfl (el 315 rfl en)))))) ?_
      refine tri_false rfl rfl ?_
      refine tri_skip ?_
      refine nx (sl 4 rfl (sl 5 rfl (sl 9 rfl (sl 10 rfl sn)))) (el 10 rfl (el 11 rfl (el 12 rfl (el 13 rfl (el 217 rfl (el 315 rfl en)))))) ?_
      refine tri_seq ?_
      refine tri_reg mixed hcx ?_ _ _
      refine ld rfl rfl tyZ rfl ?_
      refine ld rfl rfl tyZ rfl ?_
      refine st rfl rfl rfl tyZ rfl ?_
      refine st rfl rfl rfl tyZ rfl ?_
      refine ⟨by kernel_rfl, ?_⟩
      refine nx (sl 4 rfl (sl 5 rfl sn)) (el 10 rfl (el 11 rfl (el 12 rfl (el 13 rfl (el 217 rfl (el 315 rfl en)))))) ?_
      refine tri_ret ?_
      repeat (first | refine pn_thenr ?_ | refine pn_blkr ?_)
      exact ret2 hcx rfl (rv_cell (c' := cx) (n := 0) rfl rfl tyZ rfl) (rv_cell (c' := cx) (n := 0) rfl rfl tyZ rfl) (tup_le ⟨z_eqz (hr2 hr) (by omega), z_eqz (by rw [← hr2 hr]) (by omega), trivial⟩) en
    · have hsr := (sg_nz (r := a - intv true (a.natAbs / b.natAbs) * b)).2.1 (by omega)
      refine tri_reg mixed hcx ?_ _ _
      refine ld rfl rfl tyZ rfl ?_
      refine ca rfl (h := r02_Sign (by omega)) (hn := ?_)
      refine cne rfl rfl (decide_eq_true (by omega)) ?_
      refine mv rfl ?_
      refine ld rfl rfl tyZ rfl ?_ (hg := gd1)
      refine ca rfl (h := r02_Sign (by omega)) (hn := ?_) (hg := gd1)
      refine ld rfl rfl tyZ rfl ?_ (hg := gd1)
      refine ca rfl (h := r02_Sign (by omega)) (hn := ?_) (hg := gd1)
      refine cne rfl rfl (decide_eq_true (by omega)) ?_ (hg := gd1)
      refine pk rfl rfl ?_
      refine ⟨by kernel_rfl, ?_⟩
      refine nx (sl 3 rfl (sl 4 rfl (sl 5 rfl (sl 9 rfl (sl 10 rfl (sl 41 rfl sn)))))) (el 10 rfl (el 11 rfl (el 12 rfl (el 13 rfl (el 217 rfl (el 315 rfl en)))))) ?_
      refine tri_true rfl rfl ?_
      refine tri_seq ?_
      refine tri_reg mixed hcx ?_ _ _
      refine ld rfl rfl tyZ rfl ?_
      refine ca rfl (h := r02_Of (by omega) (by omega)) (hn := ?_)
      refine ca rfl (h := r02_Sub (by omega) (by omega)) (hn := ?_)
      refine st rfl rfl rfl tyZ rfl ?_
      refine ⟨by kernel_rfl, ?_⟩
      refine nx (sl 3 rfl (sl 4 rfl (sl 5 rfl (sl 9 rfl (sl 10 rfl sn))))) (el 10 rfl (el 11 rfl (el 12 rfl (el 13 rfl (el 217 rfl (el 315 rfl en)))))) ?_
      refine tri_reg mixed hcx ?_ _ _
      refine ld rfl rfl tyZ rfl ?_
      refine ld rfl rfl tyZ rfl ?_
      refine ca rfl (h := r02_Add (by omega) (by omega)) (hn := ?_)
      refine st rfl rfl rfl tyZ rfl ?_
      refine ⟨by kernel_rfl, ?_⟩
      refine nx (sl 4 rfl (sl 5 rfl (sl 9 rfl (sl 10 rfl sn)))) (el 10 rfl (el 11 rfl (el 12 rfl (el 13 rfl (el 217 rfl (el 315 rfl en)))))) ?_
      refine tri_seq ?_
      refine tri_reg mixed hcx ?_ _ _
      refine ld rfl rfl tyZ rfl ?_
      refine ld rfl rfl tyZ rfl ?_
      refine st rfl rfl rfl tyZ rfl ?_
      refine st rfl rfl rfl tyZ rfl ?_
      refine ⟨by kernel_rfl, ?_⟩
      refine nx (sl 4 rfl (sl 5 rfl sn)) (el 10 rfl (el 11 rfl (el 12 rfl (el 13 rfl (el 217 rfl (el 315 rfl en)))))) ?_
      refine tri_ret ?_
      repeat (first | refine pn_thenr ?_ | refine pn_blkr ?_)
      exact ret2 hcx rfl (rv_cell (c' := cx) (n := 0) rfl rfl tyZ rfl) (rv_cell (c' := cx) (n := 0) rfl rfl tyZ rfl) (tup_le ⟨z_eqz (hr3 hr) (by omega), z_eqz (by rw [← hr3 hr, Int.sub_mul]; omega) (by omega), trivial⟩) en
  · obtain ⟨hr1, hr2⟩ := hqa.1 ha
    refine tri_reg mixed hcx ?_ _ _
    refine fa rfl fNeg 0 ?_
    refine ld rfl rfl tyB rfl ?_
    refine fa rfl fNeg 0 ?_
    refine ld rfl rfl tyB rfl ?_
    refine neb (q := false) rfl rfl (by rw [decide_eq_false ha, decide_eq_false (by omega)]; rfl) ?_
    refine mv rfl ?_
    refine ca rfl (h := r02_madeD (s := false) (N := (a.natAbs / b.natAbs)) (k := k) (by omega) (lim_quo hza)) (hn := ?_)
    refine nw 217 zeZ ?_
    refine st rfl rfl rfl tyZ rfl ?_
    refine ⟨by kernel_rfl, ?_⟩
    refine nx (sl 2 rfl (sl 3 rfl (sl 4 rfl (sl 5 rfl (sl 9 rfl sn))))) (el 10 rfl (el 11 rfl (el 12 rfl (el 13 rfl (el 217 rfl en))))) ?_
    refine tri_seq ?_
    refine tri_reg mixed hcx ?_ _ _
    refine ld rfl rfl tyZ rfl ?_
    refine ld rfl rfl tyZ rfl ?_
    refine ld rfl rfl tyZ rfl ?_
    refine ca rfl (h := r02_Mul (by omega) (by omega)) (hn := ?_)
    refine ca rfl (h := r02_Sub (by omega) (by omega)) (hn := ?_)
    refine nw 315 zeZ ?_
    refine st rfl rfl rfl tyZ rfl ?_
    refine ⟨by kernel_rfl, ?_⟩
    refine nx (sl 3 rfl (sl 4 rfl (sl 5 rfl (sl 9 rfl (sl 10 rfl sn))))) (el 10 rfl (el 11 rfl (el 12 rfl (el 13 rfl (el 217 rfl (el 315 rfl en)))))) ?_
    refine tri_seq ?_
    refine tri_seq ?_
    by_cases hr : a - intv false (a.natAbs / b.natAbs) * b = 0
    · have hsr := sg_nz.1 hr
      refine tri_reg mixed hcx ?_ _ _
      refine ld rfl rfl tyZ rfl ?_
      refine ca rfl (h := r02_Sign (by omega)) (hn := ?_)
      refine cne rfl rfl (decide_eq_false (by omega)) ?_
      refine mv rfl ?_
      refine j_off rfl rfl rfl rfl ?_
      refine j_off rfl rfl rfl rfl ?_
      refine j_off rfl rfl rfl rfl ?_
      refine j_off rfl rfl rfl rfl ?_
      refine j_off rfl rfl rfl rfl ?_
      refine pk rfl rfl ?_
      refine ⟨by kernel_rfl, ?_⟩
      refine nx (sl 3 rfl (sl 4 rfl (sl 5 rfl (sl 9 rfl (sl 10 rfl (sl 41 rfl sn)))))) (el 10 rfl (el 11 rfl (el 12 rfl (el 13 rfl (el 217 rfl (el 315 rfl en)))))) ?_
      refine tri_false rfl rfl ?_
      refine tri_skip ?_
      refine nx (sl 4 rfl (sl 5 rfl (sl 9 rfl (sl 10 rfl sn)))) (el 10 rfl (el 11 rfl (el 12 rfl (el 13 rfl (el 217 rfl (el 315 rfl en)))))) ?_
      refine tri_seq ?_
      refine tri_reg mixed hcx ?_ _ _
      refine ld rfl rfl tyZ rfl ?_
      refine ld rfl rfl tyZ rfl ?_
      refine st rfl rfl rfl tyZ rfl ?_
      refine st rfl rfl rfl tyZ rfl ?_
      refine ⟨by kernel_rfl, ?_⟩
      refine nx (sl 4 rfl (sl 5 rfl sn)) (el 10 rfl (el 11 rfl (el 12 rfl (el 13 rfl (el 217 rfl (el 315 rfl en)))))) ?_
      refine tri_ret ?_
      repeat (first | refine pn_thenr ?_ | refine pn_blkr ?_)
      exact ret2 hcx rfl (rv_cell (c' := cx) (n := 0) rfl rfl tyZ rfl) (rv_cell (c' := cx) (n := 0) rfl rfl tyZ rfl) (tup_le ⟨z_eqz (hr1) (by omega), z_eqz (by rw [← hr1]) (by omega), trivial⟩) en
    · have hsr := (sg_nz (r := a - intv false (a.natAbs / b.natAbs) * b)).2.2 (by omega)
      refine tri_reg mixed hcx ?_ _ _
      refine ld rfl rfl tyZ rfl ?_
      refine ca rfl (h := r02_Sign (by omega)) (hn := ?_)
      refine cne rfl rfl (decide_eq_true (by omega)) ?_
      refine mv rfl ?_
      refine ld rfl rfl tyZ rfl ?_ (hg := gd1)
      refine ca rfl (h := r02_Sign (by omega)) (hn := ?_) (hg := gd1)
      refine ld rfl rfl tyZ rfl ?_ (hg := gd1)
      refine ca rfl (h := r02_Sign (by omega)) (hn := ?_) (hg := gd1)
      refine cne rfl rfl (decide_eq_false (by omega)) ?_ (hg := gd1)
      refine pk rfl rfl ?_
      refine ⟨by kernel_rfl, ?_⟩
      refine nx (sl 3 rfl (sl 4 rfl (sl 5 rfl (sl 9 rfl (sl 10 rfl (sl 41 rfl sn)))))) (el 10 rfl (el 11 rfl (el 12 rfl (el 13 rfl (el 217 rfl (el 315 rfl en)))))) ?_
      refine tri_false rfl rfl ?_
      refine tri_skip ?_
      refine nx (sl 4 rfl (sl 5 rfl (sl 9 rfl (sl 10 rfl sn)))) (el 10 rfl (el 11 rfl (el 12 rfl (el 13 rfl (el 217 rfl (el 315 rfl en)))))) ?_
      refine tri_seq ?_
      refine tri_reg mixed hcx ?_ _ _
      refine ld rfl rfl tyZ rfl ?_
      refine ld rfl rfl tyZ rfl ?_
      refine st rfl rfl rfl tyZ rfl ?_
      refine st rfl rfl rfl tyZ rfl ?_
      refine ⟨by kernel_rfl, ?_⟩
      refine nx (sl 4 rfl (sl 5 rfl sn)) (el 10 rfl (el 11 rfl (el 12 rfl (el 13 rfl (el 217 rfl (el 315 rfl en)))))) ?_
      refine tri_ret ?_
      repeat (first | refine pn_thenr ?_ | refine pn_blkr ?_)
      exact ret2 hcx rfl (rv_cell (c' := cx) (n := 0) rfl rfl tyZ rfl) (rv_cell (c' := cx) (n := 0) rfl rfl tyZ rfl) (tup_le ⟨z_eqz (hr1) (by omega), z_eqz (by rw [← hr1]) (by omega), trivial⟩) en

theorem r03_Floor {q : Rat} {k : Nat} (hk : k ≤ 68719476736) : Fn Tryz.prog 108 [T.Q q k] [] [] [] (T.Z (flo q) (k + 8)) := by
  refine fn_of Tryz.func108 rfl (by show 1 ≤ 14; decide) fun cx hcx => ?_
  refine tri_sub (sl 0 rfl sn) en ?_
  have hdn := den_p' q
  refine tri_seq ?_
  refine tri_reg mixed hcx ?_ _ _
  refine bxs 10 rfl ?_
  refine nw 11 zeZ ?_
  refine ⟨by kernel_rfl, ?_⟩
  refine nx (sl 1 rfl (sl 2 rfl sn)) (el 10 rfl (el 11 rfl en)) ?_
  refine tri_seq ?_
  refine tri_reg mixed hcx ?_ _ _
  refine fa rfl fNum 0 ?_
  refine ld rfl rfl tyZ rfl ?_
  refine fa rfl fDen 2 ?_
  refine ld rfl rfl tyZ rfl ?_
  refine ca rfl (h := r02_Floor (by omega) (by omega) (by omega)) (hn := ?_)
  refine mv rfl ?_
  refine ex rfl rfl ?_
  refine ex rfl rfl ?_
  refine nw 118 zeZ ?_
  refine nw 119 zeZ ?_
  refine st rfl rfl rfl tyZ rfl ?_
  refine st rfl rfl rfl tyZ rfl ?_
  refine ⟨by kernel_rfl, ?_⟩
  refine nx (sl 2 rfl (sl 3 rfl sn)) (el 10 rfl (el 11 rfl (el 118 rfl (el 119 rfl en)))) ?_
  refine tri_seq ?_
  refine tri_reg mixed hcx ?_ _ _
  refine ld rfl rfl tyZ rfl ?_
  refine st rfl rfl rfl tyZ rfl ?_
  refine ⟨by kernel_rfl, ?_⟩
  refine nx (sl 2 rfl sn) (el 10 rfl (el 11 rfl (el 118 rfl (el 119 rfl en)))) ?_
  refine tri_ret ?_
  repeat (first | refine pn_thenr ?_ | refine pn_blkr ?_)
  exact ret1 hcx rfl (rv_cell (c' := cx) (n := 0) rfl rfl tyZ rfl) (.refl _) en

end Go.Proofs.YtekghdfbhbhigaaGreat.V
/- Search trees: what is no tree, what is too long. -/
set_option linter.unusedVariables false
set_option linter.unusedSimpArgs false
set_option maxRecDepth 100000
namespace Go.Proofs.YtekghdfbhbhigaaGreat.V
open Go.RowKit Mt Nml
end Go.Proofs.YtekghdfbhbhigaaGreat.V
/- Search trees: the document's parts and centres. -/
set_option linter.unusedVariables false
set_option linter.unusedSimpArgs false
set_option maxRecDepth 100000
namespace Go.Proofs.YtekghdfbhbhigaaGreat.V
open Go.RowKit Mt Nml
theorem l11_same {q : Rat} {k l : Nat} (hk : k ≤ 17592186044416) : Fn Tryz.prog 18 [T.Q q k, T.Q q l] [] [] [] (T.c (.bool true)) := by
  refine fn_of Tryz.func18 rfl (by show 2 ≤ 17; decide) fun cx hcx => ?_
  refine tri_sub (sl 0 rfl (sl 1 rfl sn)) en ?_
  refine tri_seq ?_
  refine tri_reg mixed hcx ?_ _ _
  refine bxs 10 rfl ?_
  refine bxs 11 rfl ?_
  refine asg rfl ?_
  refine ⟨by kernel_rfl, ?_⟩
  refine nx (sl 2 rfl (sl 3 rfl sn)) (el 10 rfl (el 11 rfl en)) ?_
  refine tri_seq ?_
  refine tri_reg mixed hcx ?_ _ _
  refine fa rfl fNum 0 ?_
  refine ld rfl rfl tyZ rfl ?_
  refine fa rfl fNum 0 ?_
  refine ld rfl rfl tyZ rfl ?_
  refine ca rfl (h := l11_whole (by omega)) (hn := ?_)
  refine mv rfl ?_
  refine fa rfl fDen 2 ?_ (hg := gd1)
  refine ld rfl rfl tyZ rfl ?_ (hg := gd1)
  refine fa rfl fDen 2 ?_ (hg := gd1)
  refine ld rfl rfl tyZ rfl ?_ (hg := gd1)
  refine ca rfl (h := l11_whole (by omega)) (hn := ?_) (hg := gd1)
  refine pk rfl rfl ?_
  refine asg rfl ?_
  refine ⟨by kernel_rfl, ?_⟩
  refine nx (sl 4 rfl sn) (el 10 rfl (el 11 rfl en)) ?_
  refine tri_ret ?_
  repeat (first | refine pn_thenr ?_ | refine pn_blkr ?_)
  exact ret1 hcx rfl (rv_tmp rfl) (.refl _) en

end Go.Proofs.YtekghdfbhbhigaaGreat.V
/- Search trees: every suffix has the part that its definition tells. -/
set_option linter.unusedVariables false
set_option linter.unusedSimpArgs false
set_option maxRecDepth 100000
namespace Go.Proofs.YtekghdfbhbhigaaGreat.V
open Go.RowKit Mt Nml
-- left out

-- left out

-- left out

-- left out
end Go.Proofs.YtekghdfbhbhigaaGreat.V
