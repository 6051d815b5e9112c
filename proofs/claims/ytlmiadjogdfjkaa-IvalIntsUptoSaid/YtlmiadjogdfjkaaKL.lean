/- Intervals: what they hold. -/
import Derived.Test.YtlmiadjogdfjkaaKK
set_option linter.unusedVariables false
set_option linter.unusedSimpArgs false
set_option maxRecDepth 100000
namespace Go.Proofs.Ytlmiadjogdfjkaa.V
open Go.RowKit Mt Nml
/-- A fraction however told. -/
abbrev T.Qi (a b : Int) (k : Nat) : T := T.st [T.Zi a k, T.Zi b k]
theorem qi_mono {a b : Int} {k k' : Nat} (h : k ≤ k') : (T.Qi a b k).le (T.Qi a b k') := st_le (l := [T.Zi a k, T.Zi b k]) (l' := [T.Zi a k', T.Zi b k']) ⟨zi_mono h, zi_mono h, trivial⟩
theorem q_qi (q : Rat) {k k' : Nat} (h : k ≤ k') : (T.Q q k).le (T.Qi q.num (q.den : Int) k') := st_le (l := [T.Z q.num k, T.Z (q.den : Int) k]) (l' := [T.Zi q.num k', T.Zi (q.den : Int) k']) ⟨(z_zi _ _).trans (zi_mono h), (z_zi _ _).trans (zi_mono h), trivial⟩
theorem rat_addG {a b c d : Int} (hb : b ≠ 0) (hd : d ≠ 0) : ((a * d + c * b : Int) : Rat) / ((b * d : Int) : Rat) = (a : Rat) / (b : Rat) + (c : Rat) / (d : Rat) := by
  rw [← Rat.divInt_eq_div, ← Rat.divInt_eq_div, ← Rat.divInt_eq_div, Rat.divInt_add_divInt _ _ hb hd]
theorem rat_mulG (a b c d : Int) : ((a * c : Int) : Rat) / ((b * d : Int) : Rat) = (a : Rat) / (b : Rat) * ((c : Rat) / (d : Rat)) := by
  rw [← Rat.divInt_eq_div, ← Rat.divInt_eq_div, ← Rat.divInt_eq_div, Rat.divInt_mul_divInt]
theorem rat_negG (a b : Int) : ((-a : Int) : Rat) / (b : Rat) = -((a : Rat) / (b : Rat)) := by
  rw [← Rat.divInt_eq_div, ← Rat.divInt_eq_div, Rat.neg_divInt]
theorem rat_nd (q : Rat) : ((q.num : Int) : Rat) / (((q.den : Int)) : Rat) = q := by rw [← Rat.divInt_eq_div, Rat.num_divInt_den]
theorem num_mul (q : Rat) : q * ((q.den : Int) : Rat) = ((q.num : Int) : Rat) := by
  have h := Rat.div_mul_cancel (a := ((q.num : Int) : Rat)) (rat_ne (den_ne q))
  rwa [rat_nd] at h
theorem lt_frac {q : Rat} {c d : Int} (hd : 0 < d) : q < (c : Rat) / (d : Rat) ↔ q.num * d < c * (q.den : Int) := by
  have h1 : (0 : Rat) < (d : Rat) := Rat.intCast_pos.2 hd
  have h2 : (0 : Rat) < ((q.den : Int) : Rat) := Rat.intCast_pos.2 (by have := q.den_pos; omega)
  rw [Rat.lt_div_iff h1, ← Rat.intCast_lt_intCast, Rat.intCast_mul, Rat.intCast_mul, ← Rat.mul_lt_mul_right h2]
  have e := num_mul q
  rw [show q * (d : Rat) * ((q.den : Int) : Rat) = q * ((q.den : Int) : Rat) * (d : Rat) from by grind, e]
theorem frac_lt {q : Rat} {c d : Int} (hd : 0 < d) : (c : Rat) / (d : Rat) < q ↔ c * (q.den : Int) < q.num * d := by
  have h1 : (0 : Rat) < (d : Rat) := Rat.intCast_pos.2 hd
  have h2 : (0 : Rat) < ((q.den : Int) : Rat) := Rat.intCast_pos.2 (by have := q.den_pos; omega)
  rw [Rat.div_lt_iff h1, ← Rat.intCast_lt_intCast, Rat.intCast_mul, Rat.intCast_mul, ← Rat.mul_lt_mul_right h2]
  have e := num_mul q
  rw [show q * (d : Rat) * ((q.den : Int) : Rat) = q * ((q.den : Int) : Rat) * (d : Rat) from by grind, e]
theorem sg_num {q : Rat} : (sg q.num = -1 ↔ q < 0) ∧ (sg q.num = 0 ↔ q = 0) ∧ (sg q.num = 1 ↔ 0 < q) := by
  have h1 : q < 0 ↔ q.num < 0 := by rw [← Rat.not_le, ← Rat.num_nonneg, Int.not_le]
  have h2 : 0 < q ↔ 0 < q.num := by
    constructor
    · intro h
      have h3 : 0 ≤ q.num := Rat.num_nonneg.2 (Rat.le_of_lt h)
      have h4 : q.num ≠ 0 := fun e => by rw [Rat.num_eq_zero] at e; rw [e] at h; exact Rat.lt_irrefl h
      omega
    · intro h
      refine Rat.lt_of_le_of_ne (Rat.num_nonneg.1 (by omega)) fun e => ?_
      rw [← e] at h
      exact absurd h (by decide)
  unfold sg sgnc
  rw [h1, h2, ← Rat.num_eq_zero]
  refine ⟨?_, ?_, ?_⟩ <;> split <;> (try split) <;> constructor <;> intro h <;> omega
theorem sg_sub_le {x y : Rat} : 0 < sg (x - y).num ↔ y < x := by
  have h := @sg_num (x - y)
  have hb : sg (x - y).num = -1 ∨ sg (x - y).num = 0 ∨ sg (x - y).num = 1 := by unfold sg sgnc; split <;> (try split) <;> simp
  rw [Rat.lt_iff_sub_pos, ← h.2.2]
  omega

instance (k : Nat) (q : Int × Int) : Sp ((cQi k).X q) [T.Zi q.1 k, T.Zi q.2 k] := inferInstanceAs (Sp (T.st [T.Zi q.1 k, T.Zi q.2 k]) _)
theorem two_pos {a b c d : Int} (hb : 0 < b) (hd : 0 < d) : ∀ i, i < [(a, b), (c, d)].length → 0 < ([(a, b), (c, d)].getD i (0, 0)).2 := fun i hi => by
  match i, hi with
  | 0, _ => exact hb
  | 1, _ => exact hd

theorem r03_NegG {a b : Int} {k : Nat} (hb : b ≠ 0) (hk : k ≤ 68719476736) : Fn Try.prog 42 [T.Qi a b k] [] [] [] (T.Q (-((a : Rat) / (b : Rat))) (k + k)) := by
  refine fn_of Try.func42 rfl (by show 1 ≤ 9; decide) fun cx hcx => ?_
  refine tri_sub (sl 0 rfl sn) en ?_
  refine tri_seq ?_
  refine tri_reg mixed hcx ?_ _ _
  refine bxs 10 rfl ?_
  refine nw 11 zeQ ?_
  refine ⟨by kernel_rfl, ?_⟩
  refine nx (sl 1 rfl (sl 2 rfl sn)) (el 10 rfl (el 11 rfl en)) ?_
  refine tri_seq ?_
  refine tri_reg mixed hcx ?_ _ _
  refine fa rfl fNum 0 ?_
  refine ld rfl rfl tyZ rfl ?_
  refine ca rfl (h := r02_Neg (by omega)) (hn := ?_)
  refine fa rfl fDen 2 ?_
  refine ld rfl rfl tyZ rfl ?_
  refine ca rfl (h := r03_Make (by first | assumption | omega) (by omega) (by omega)) (hn := ?_)
  refine st rfl rfl rfl tyQ rfl ?_
  refine ⟨by kernel_rfl, ?_⟩
  refine nx (sl 2 rfl sn) (el 10 rfl (el 11 rfl en)) ?_
  refine tri_ret ?_
  repeat (first | refine pn_thenr ?_ | refine pn_blkr ?_)
  exact ret1 hcx rfl (rv_cell (c' := cx) (n := 0) rfl rfl tyQ rfl) (q_eq (rat_negG a b) (Nat.le_refl _)) en

theorem r03_AddG {a b c d : Int} {k l : Nat} (hb0 : b ≠ 0) (hd0 : d ≠ 0) (hk : k ≤ 68719476736) (hl : l ≤ 68719476736) : Fn Try.prog 16 [T.Qi a b k, T.Qi c d l] [] [] [] (T.Q ((a : Rat) / (b : Rat) + (c : Rat) / (d : Rat)) (3 * (k + l) + 1)) := by
  refine fn_of Try.func16 rfl (by show 2 ≤ 26; decide) fun cx hcx => ?_
  refine tri_sub (sl 0 rfl (sl 1 rfl sn)) en ?_
  have hbd0 : b * d ≠ 0 := Int.mul_ne_zero hb0 hd0
  refine tri_seq ?_
  refine tri_reg mixed hcx ?_ _ _
  refine bxs 10 rfl ?_
  refine bxs 11 rfl ?_
  refine nw 12 zeQ ?_
  refine ⟨by kernel_rfl, ?_⟩
  refine nx (sl 2 rfl (sl 3 rfl (sl 4 rfl sn))) (el 10 rfl (el 11 rfl (el 12 rfl en))) ?_
  refine tri_seq ?_
  refine tri_reg mixed hcx ?_ _ _
  refine fa rfl fNum 0 ?_
  refine ld rfl rfl tyZ rfl ?_
  refine fa rfl fDen 2 ?_
  refine ld rfl rfl tyZ rfl ?_
  refine ca rfl (h := r02_Mul (by omega) (by omega)) (hn := ?_)
  refine nw 115 zeZ ?_
  refine st rfl rfl rfl tyZ rfl ?_
  refine ⟨by kernel_rfl, ?_⟩
  refine nx (sl 2 rfl (sl 3 rfl (sl 4 rfl (sl 5 rfl sn)))) (el 10 rfl (el 11 rfl (el 12 rfl (el 115 rfl en)))) ?_
  refine tri_seq ?_
  refine tri_reg mixed hcx ?_ _ _
  refine fa rfl fNum 0 ?_
  refine ld rfl rfl tyZ rfl ?_
  refine fa rfl fDen 2 ?_
  refine ld rfl rfl tyZ rfl ?_
  refine ca rfl (h := r02_Mul (by omega) (by omega)) (hn := ?_)
  refine nw 215 zeZ ?_
  refine st rfl rfl rfl tyZ rfl ?_
  refine ⟨by kernel_rfl, ?_⟩
  refine nx (sl 2 rfl (sl 3 rfl (sl 4 rfl (sl 5 rfl (sl 6 rfl sn))))) (el 10 rfl (el 11 rfl (el 12 rfl (el 115 rfl (el 215 rfl en))))) ?_
  refine tri_seq ?_
  refine tri_reg mixed hcx ?_ _ _
  refine ld rfl rfl tyZ rfl ?_
  refine ld rfl rfl tyZ rfl ?_
  refine ca rfl (h := r02_Add (by omega) (by omega)) (hn := ?_)
  refine fa rfl fDen 2 ?_
  refine ld rfl rfl tyZ rfl ?_
  refine fa rfl fDen 2 ?_
  refine ld rfl rfl tyZ rfl ?_
  refine ca rfl (h := r02_Mul (by omega) (by omega)) (hn := ?_)
  refine ca rfl (h := r03_Make (by first | assumption | omega) (by omega) (by omega)) (hn := ?_)
  refine st rfl rfl rfl tyQ rfl ?_
  refine ⟨by kernel_rfl, ?_⟩
  refine nx (sl 4 rfl sn) (el 10 rfl (el 11 rfl (el 12 rfl (el 115 rfl (el 215 rfl en))))) ?_
  refine tri_ret ?_
  repeat (first | refine pn_thenr ?_ | refine pn_blkr ?_)
  exact ret1 hcx rfl (rv_cell (c' := cx) (n := 0) rfl rfl tyQ rfl) (q_eq (rat_addG hb0 hd0) (by omega)) en

theorem subG (x : Rat) {c d : Int} : x + ((-((c : Rat) / (d : Rat))).num : Rat) / (((-((c : Rat) / (d : Rat))).den : Int) : Rat) = x - (c : Rat) / (d : Rat) := by rw [rat_nd]; exact (Rat.sub_eq_add_neg _ _).symm

theorem r03_SubG {a b c d : Int} {k l : Nat} (hb : 0 < b) (hd : 0 < d) (hk : k ≤ 17179869184) (hl : l ≤ 17179869184) : Fn Try.prog 17 [T.Qi a b k, T.Qi c d l] [] [] [] (T.Q ((a : Rat) / (b : Rat) - (c : Rat) / (d : Rat)) (3 * (k + (l + l)) + 1)) := by
  refine fn_of Try.func17 rfl (by show 2 ≤ 9; decide) fun cx hcx => ?_
  refine tri_sub (sl 0 rfl (sl 1 rfl sn)) en ?_
  have hb0 : b ≠ 0 := by omega
  have hd0 : d ≠ 0 := by omega
  have hn := den_ne (-((c : Rat) / (d : Rat)))
  refine tri_seq ?_
  refine tri_reg mixed hcx ?_ _ _
  refine bxs 10 rfl ?_
  refine bxs 11 rfl ?_
  refine nw 12 zeQ ?_
  refine ⟨by kernel_rfl, ?_⟩
  refine nx (sl 2 rfl (sl 3 rfl (sl 4 rfl sn))) (el 10 rfl (el 11 rfl (el 12 rfl en))) ?_
  refine tri_seq ?_
  refine tri_reg mixed hcx ?_ _ _
  refine ld rfl rfl tyQ rfl ?_
  refine ld rfl rfl tyQ rfl ?_
  refine ca rfl (h := r03_NegG hd0 (by omega)) (hn := ?_)
  refine ca rfl (h := r03_AddG hb0 hn (by omega) (by omega)) (hn := ?_)
  refine st rfl rfl rfl tyQ rfl ?_
  refine ⟨by kernel_rfl, ?_⟩
  refine nx (sl 4 rfl sn) (el 10 rfl (el 11 rfl (el 12 rfl en))) ?_
  refine tri_ret ?_
  repeat (first | refine pn_thenr ?_ | refine pn_blkr ?_)
  exact ret1 hcx rfl (rv_cell (c' := cx) (n := 0) rfl rfl tyQ rfl) (q_eq (subG _) (Nat.le_refl _)) en

theorem r03_CmpG {a b c d : Int} {k l : Nat} (hb : 0 < b) (hd : 0 < d) (hk : k ≤ 17179869184) (hl : l ≤ 17179869184) : Fn Try.prog 19 [T.Qi a b k, T.Qi c d l] [] [] [] (T.c (.int .i64 (sg ((a : Rat) / (b : Rat) - (c : Rat) / (d : Rat)).num))) := by
  refine fn_of Try.func19 rfl (by show 2 ≤ 10; decide) fun cx hcx => ?_
  refine tri_sub (sl 0 rfl (sl 1 rfl sn)) en ?_
  refine tri_seq ?_
  refine tri_reg mixed hcx ?_ _ _
  refine bxs 10 rfl ?_
  refine bxs 11 rfl ?_
  refine asg rfl ?_
  refine ⟨by kernel_rfl, ?_⟩
  refine nx (sl 2 rfl (sl 3 rfl sn)) (el 10 rfl (el 11 rfl en)) ?_
  refine tri_seq ?_
  refine tri_reg mixed hcx ?_ _ _
  refine ld rfl rfl tyQ rfl ?_
  refine ld rfl rfl tyQ rfl ?_
  refine ca rfl (h := r03_SubG hb hd (by omega) (by omega)) (hn := ?_)
  refine fd rfl fNum rfl ?_
  refine ca rfl (h := r02_Sign (by omega)) (hn := ?_)
  refine asg rfl ?_
  refine ⟨by kernel_rfl, ?_⟩
  refine nx (sl 4 rfl sn) (el 10 rfl (el 11 rfl en)) ?_
  refine tri_ret ?_
  repeat (first | refine pn_thenr ?_ | refine pn_blkr ?_)
  exact ret1 hcx rfl (rv_tmp rfl) (.refl _) en

theorem sg_pos_iff {b : Int} : 0 < sg b ↔ 0 < b := by unfold sg sgnc; split <;> (try split) <;> omega

theorem r03_ValidG {a b : Int} {k : Nat} {q : Bool} (hq : q = true ↔ 0 < b) (hk : k ≤ 17179869184) : Fn Try.prog 9 [T.Qi a b k] [] [] [] (T.c (.bool q)) := by
  refine fn_of Try.func9 rfl (by show 1 ≤ 7; decide) fun cx hcx => ?_
  refine tri_sub (sl 0 rfl sn) en ?_
  have hs := @sg_pos_iff b
  refine tri_seq ?_
  refine tri_reg mixed hcx ?_ _ _
  refine bxs 10 rfl ?_
  refine asg rfl ?_
  refine ⟨by kernel_rfl, ?_⟩
  refine nx (sl 1 rfl sn) (el 10 rfl en) ?_
  refine tri_seq ?_
  refine tri_reg mixed hcx ?_ _ _
  refine fa rfl fDen 2 ?_
  refine ld rfl rfl tyZ rfl ?_
  refine ca rfl (h := r02_Sign (by omega)) (hn := ?_)
  refine cgt rfl rfl rfl ?_
  refine asg rfl ?_
  refine ⟨by kernel_rfl, ?_⟩
  refine nx (sl 2 rfl sn) (el 10 rfl en) ?_
  refine tri_ret ?_
  repeat (first | refine pn_thenr ?_ | refine pn_blkr ?_)
  exact ret1 hcx rfl (rv_tmp rfl) (.of (by rw [show decide ((0 : Int) < sg b) = q from by cases q <;> simp_all])) en

def fitsL (o : Option Nat) (q : Rat) : Bool := if oFin o then decide (oq o ≤ q) else oInf (-1) o
def fitsH (o : Option Nat) (q : Rat) : Bool := if oFin o then decide (q ≤ oq o) else oInf 1 o
theorem fitsL_t {o : Option Nat} {q : Rat} (h : oFin o = true) (k : ¬ q < oq o) : fitsL o q = true := by unfold fitsL; rw [h, if_pos rfl]; exact decide_eq_true (Rat.not_lt.1 k)
theorem fitsL_f {o : Option Nat} {q : Rat} (h : oFin o = true) (k : q < oq o) : fitsL o q = false := by unfold fitsL; rw [h, if_pos rfl]; exact decide_eq_false (Rat.not_le.2 k)
theorem fitsL_i {o : Option Nat} {q : Rat} (h : oFin o = false) : fitsL o q = oInf (-1) o := by unfold fitsL; rw [h]; rfl
theorem fitsH_t {o : Option Nat} {q : Rat} (h : oFin o = true) (k : ¬ oq o < q) : fitsH o q = true := by unfold fitsH; rw [h, if_pos rfl]; exact decide_eq_true (Rat.not_lt.1 k)
theorem fitsH_f {o : Option Nat} {q : Rat} (h : oFin o = true) (k : oq o < q) : fitsH o q = false := by unfold fitsH; rw [h, if_pos rfl]; exact decide_eq_false (Rat.not_le.2 k)
theorem fitsH_i {o : Option Nat} {q : Rat} (h : oFin o = false) : fitsH o q = oInf 1 o := by unfold fitsH; rw [h]; rfl

theorem le_some {o p : Option Nat} (h : oLe o p = true) : ∃ x y, o = some x ∧ p = some y := by
  cases o <;> cases p <;> first | (exact ⟨_, _, rfl, rfl⟩) | (cases h)
/-- An end that is infinite. -/
theorem inf_pos {x : Nat} (hx : x < 18446744073709551616) (hf : oFin (some x) = false) : (oLt (fo 0) (some x) = true ∧ x = 9218868437227405312) ∨ (oLt (fo 0) (some x) = false ∧ x = 18442240474082181120) := by
  have hr : Fl.rung x = 9218868437227405312 := Decidable.not_not.1 (of_decide_eq_false hf)
  rw [Fl.rung_of hx] at hr
  split at hr
  · exact .inr ⟨by rw [show x = 18442240474082181120 by omega]; decide, by omega⟩
  · exact .inl ⟨by rw [hr]; decide, by omega⟩
theorem inf_neg' {x : Nat} (hx : x < 18446744073709551616) (hf : oFin (some x) = false) : (oLt (some x) (fo 0) = true ∧ x = 18442240474082181120) ∨ (oLt (some x) (fo 0) = false ∧ x = 9218868437227405312) := by
  have hr : Fl.rung x = 9218868437227405312 := Decidable.not_not.1 (of_decide_eq_false hf)
  rw [Fl.rung_of hx] at hr
  split at hr
  · exact .inl ⟨by rw [show x = 18442240474082181120 by omega]; decide, by omega⟩
  · exact .inr ⟨by rw [hr]; decide, by omega⟩
section
variable {P : Program} {x : Code} {Q : Exit → Act → World → Prop} {ctx : Ctx} {n : Nat} {g : List (Nat × T)} {E : List (Nat × Option Ent)}
theorem cells_F {β : Env} {u : World} : ∀ {l : List T} {cs : List Value} {o : Option Nat}, T.F o ∈ l → Cells β u l cs → ∃ b, b < 18446744073709551616 ∧ fo b = o
  | [], _, _, h, _ => by cases h
  | X :: r, cs, o, h, ⟨v, rest, _, hv, _, hr⟩ => by
    rcases List.mem_cons.1 h with h | h
    · rw [← h] at hv
      obtain ⟨b, hb, _⟩ := hv
      exact ⟨b, hb⟩
    · exact cells_F h hr
/-- A float's word is a word. -/
theorem tri_fb (t : Nat) {l : List T} {o : Option Nat} (ht : lk g t = some (T.st l)) (hm : T.F o ∈ l) (h : (∃ b, b < 18446744073709551616 ∧ fo b = o) → Tri P x Q ctx n g E) : Tri P x Q ctx n g E := fun a w hS => by
  have hS' := hS
  obtain ⟨β, u, F, h1, h2, h3, _⟩ := hS'
  obtain ⟨v, _, cs, _, hc⟩ := h3 t _ ht
  exact h (cells_F hm hc) a w hS
end
theorem fo_some {b x : Nat} (h : fo b = some x) : b = x := by
  unfold fo at h
  split at h
  · cases h
  · cases h; rfl
theorem lt_some {o : Option Nat} {x : Nat} (h : ∃ b, b < 18446744073709551616 ∧ fo b = o) (e : o = some x) : x < 18446744073709551616 := by
  obtain ⟨b, hb, hf⟩ := h
  rw [e] at hf
  rw [← fo_some hf]; exact hb
theorem mem0 (o p : Option Nat) : T.F o ∈ [T.F o, T.F p] := List.mem_cons_self
theorem mem1 (o p : Option Nat) : T.F p ∈ [T.F o, T.F p] := List.mem_cons_of_mem _ List.mem_cons_self
theorem qq_lt (x q : Rat) : 0 < sg (x - q).num ↔ q < x := sg_sub_le

theorem lo_cases {x : Nat} (hx : x < 18446744073709551616) (q : Rat) : (oFin (some x) = true ∧ ¬ q < oq (some x) ∧ fitsL (some x) q = true) ∨ (oFin (some x) = true ∧ q < oq (some x) ∧ fitsL (some x) q = false) ∨ (oFin (some x) = false ∧ oLt (fo 0) (some x) = true ∧ fitsL (some x) q = false) ∨ (oFin (some x) = false ∧ oLt (fo 0) (some x) = false ∧ fitsL (some x) q = true) := by
  rcases Bool.eq_false_or_eq_true (oFin (some x)) with hf | hf
  · by_cases h1 : q < oq (some x)
    · exact .inr (.inl ⟨hf, h1, fitsL_f hf h1⟩)
    · exact .inl ⟨hf, h1, fitsL_t hf h1⟩
  · rcases inf_pos hx hf with ⟨h1, h2⟩ | ⟨h1, h2⟩
    · exact .inr (.inr (.inl ⟨hf, h1, by rw [fitsL_i hf, h2]; decide⟩))
    · exact .inr (.inr (.inr ⟨hf, h1, by rw [fitsL_i hf, h2]; decide⟩))
theorem hi_cases {x : Nat} (hx : x < 18446744073709551616) (q : Rat) : (oFin (some x) = true ∧ ¬ oq (some x) < q ∧ fitsH (some x) q = true) ∨ (oFin (some x) = true ∧ oq (some x) < q ∧ fitsH (some x) q = false) ∨ (oFin (some x) = false ∧ oLt (some x) (fo 0) = true ∧ fitsH (some x) q = false) ∨ (oFin (some x) = false ∧ oLt (some x) (fo 0) = false ∧ fitsH (some x) q = true) := by
  rcases Bool.eq_false_or_eq_true (oFin (some x)) with hf | hf
  · by_cases h1 : oq (some x) < q
    · exact .inr (.inl ⟨hf, h1, fitsH_f hf h1⟩)
    · exact .inl ⟨hf, h1, fitsH_t hf h1⟩
  · rcases inf_neg' hx hf with ⟨h1, h2⟩ | ⟨h1, h2⟩
    · exact .inr (.inr (.inl ⟨hf, h1, by rw [fitsH_i hf, h2]; decide⟩))
    · exact .inr (.inr (.inr ⟨hf, h1, by rw [fitsH_i hf, h2]; decide⟩))

theorem r9_Holds {o p : Option Nat} {c d : Int} {k : Nat} (h : oLe o p = true) (hd : 0 < d) (hk : k ≤ 17179869184) : Fn Try.prog 10 [T.st [T.F o, T.F p], T.Qi c d k] [] [] [] (T.c (.bool (fitsL o ((c : Rat) / (d : Rat)) && fitsH p ((c : Rat) / (d : Rat))))) := by
  refine fn_of Try.func10 rfl (by show 2 ≤ 53; decide) fun cx hcx => ?_
  refine tri_sub (sl 0 rfl (sl 1 rfl sn)) en ?_
  refine tri_fb 0 rfl (mem0 _ _) fun hbx => ?_
  refine tri_fb 0 rfl (mem1 _ _) fun hby => ?_
  obtain ⟨x, y, rfl, rfl⟩ := le_some h
  have hx := lt_some hbx rfl; have hy := lt_some hby rfl
  refine tri_seq ?_
  refine tri_reg mixed hcx ?_ _ _
  refine bxs 10 rfl ?_
  refine bxs 11 rfl ?_
  refine asg rfl ?_
  refine ⟨by kernel_rfl, ?_⟩
  refine nx (sl 2 rfl (sl 3 rfl sn)) (el 10 rfl (el 11 rfl en)) ?_
  refine tri_seq ?_
  refine tri_reg mixed hcx ?_ _ _
  refine fa rfl fLo 0 ?_
  refine ld rfl rfl tyF rfl ?_
  refine caf rfl (h := r9_Exact) (hn := ?_)
  refine mv rfl ?_
  refine ex rfl rfl ?_
  refine ex rfl rfl ?_
  refine nw 116 zeQ ?_
  refine sts rfl rfl rfl tyQ rfl ?_
  refine asg rfl ?_
  refine ⟨by kernel_rfl, ?_⟩
  refine nx (sl 2 rfl (sl 3 rfl (sl 5 rfl (sl 6 rfl sn)))) (el 10 rfl (el 11 rfl (el 116 rfl en))) ?_
  refine tri_join (ι := Unit) (fun _ => [(2, T.p 10 0), (3, T.p 11 0)]) (fun _ => [(10, some (Ent.box 24 [T.F (some x), T.F (some y)])), (11, some (Ent.box 29 [T.Zi c k, T.Zi d k]))]) (fun _ => (fitsL (some x) ((c : Rat) / (d : Rat)) = true)) ?_ ?_
  · refine tri_seq ?_
    rcases lo_cases hx ((c : Rat) / (d : Rat)) with ⟨hf, h1, hL0⟩ | ⟨hf, h1, hL0⟩ | ⟨hf, h1, hL0⟩ | ⟨hf, h1, hL0⟩
    · refine tri_as 6 (Z := T.c (.bool true)) rfl (.of (by rw [hf])) ?_
      refine tri_reg mixed hcx ?_ _ _
      refine mv rfl ?_
      refine mv rfl ?_
      refine ld rfl rfl tyQ rfl ?_ (hg := gd1)
      refine ld rfl rfl tyQ rfl ?_ (hg := gd1)
      refine ca rfl (h := (fn_out (r03_CmpG (show 0 < ((oq (some x)).den : Int) from by have := (oq (some x)).den_pos; omega) hd (by omega) (by omega)) (ci (by rw [rat_nd])))) (hn := ?_) (hg := gd1)
      refine cgt rfl rfl (decide_eq_false (mt (qq_lt _ _).1 h1)) ?_ (hg := gd1)
      refine pk rfl rfl ?_
      refine mv rfl ?_
      refine mv rfl ?_ (hg := gd1)
      refine nt rfl _ rfl ?_ (hg := gd1)
      refine mv rfl ?_ (hg := gd1)
      refine j_off rfl rfl rfl rfl ?_
      refine j_off rfl rfl rfl rfl ?_
      refine j_off rfl rfl rfl rfl ?_
      refine pk rfl rfl ?_ (hg := gd1)
      refine pk rfl rfl ?_
      refine ⟨by kernel_rfl, ?_⟩
      refine nx (sl 2 rfl (sl 3 rfl (sl 29 rfl sn))) (el 10 rfl (el 11 rfl (el 116 rfl en))) ?_
      refine tri_false rfl rfl ?_
      refine tri_skip ?_
      exact pn_join () hL0 (sl 2 rfl (sl 3 rfl sn)) (el 10 rfl (el 11 rfl en))
    · refine tri_as 6 (Z := T.c (.bool true)) rfl (.of (by rw [hf])) ?_
      refine tri_reg mixed hcx ?_ _ _
      refine mv rfl ?_
      refine mv rfl ?_
      refine ld rfl rfl tyQ rfl ?_ (hg := gd1)
      refine ld rfl rfl tyQ rfl ?_ (hg := gd1)
      refine ca rfl (h := (fn_out (r03_CmpG (show 0 < ((oq (some x)).den : Int) from by have := (oq (some x)).den_pos; omega) hd (by omega) (by omega)) (ci (by rw [rat_nd])))) (hn := ?_) (hg := gd1)
      refine cgt rfl rfl (decide_eq_true ((qq_lt _ _).2 h1)) ?_ (hg := gd1)
      refine pk rfl rfl ?_
      refine mv rfl ?_
      refine j_off rfl rfl rfl rfl ?_
      refine j_off rfl rfl rfl rfl ?_
      refine j_off rfl rfl rfl rfl ?_
      refine j_ofu rfl rfl rfl ?_
      refine j_ofu rfl rfl rfl ?_
      refine j_ofu rfl rfl rfl ?_
      refine j_off rfl rfl rfl rfl ?_
      refine pk rfl rfl ?_
      refine ⟨by kernel_rfl, ?_⟩
      refine nx (sl 2 rfl (sl 3 rfl (sl 29 rfl sn))) (el 10 rfl (el 11 rfl (el 116 rfl en))) ?_
      refine tri_true rfl rfl ?_
      refine tri_seq ?_
      refine tri_reg mixed hcx ?_ _ _
      refine asg rfl ?_
      refine ⟨by kernel_rfl, ?_⟩
      refine nx (sl 4 rfl sn) (el 10 rfl (el 11 rfl (el 116 rfl en))) ?_
      refine tri_ret ?_
      repeat (first | refine pn_thenr ?_ | refine pn_blkr ?_)
      exact ret1 hcx rfl (rv_tmp rfl) (.of (by rw [hL0]; rfl)) en
    · refine tri_as 6 (Z := T.c (.bool false)) rfl (.of (by rw [hf])) ?_
      refine tri_reg mixed hcx ?_ _ _
      refine mv rfl ?_
      refine mv rfl ?_
      refine j_off rfl rfl rfl rfl ?_
      refine j_off rfl rfl rfl rfl ?_
      refine j_off rfl rfl rfl rfl ?_
      refine j_off rfl rfl rfl rfl ?_
      refine pk rfl rfl ?_
      refine mv rfl ?_
      refine mv rfl ?_ (hg := gd1)
      refine nt rfl _ rfl ?_ (hg := gd1)
      refine mv rfl ?_ (hg := gd1)
      refine fa rfl fLo 0 ?_ (hg := gd1)
      refine ld rfl rfl tyF rfl ?_ (hg := gd1)
      refine fgt rfl rfl h1 ?_ (hg := gd1)
      refine pk rfl rfl ?_ (hg := gd1)
      refine pk rfl rfl ?_
      refine ⟨by kernel_rfl, ?_⟩
      refine nx (sl 2 rfl (sl 3 rfl (sl 29 rfl sn))) (el 10 rfl (el 11 rfl (el 116 rfl en))) ?_
      refine tri_true rfl rfl ?_
      refine tri_seq ?_
      refine tri_reg mixed hcx ?_ _ _
      refine asg rfl ?_
      refine ⟨by kernel_rfl, ?_⟩
      refine nx (sl 4 rfl sn) (el 10 rfl (el 11 rfl (el 116 rfl en))) ?_
      refine tri_ret ?_
      repeat (first | refine pn_thenr ?_ | refine pn_blkr ?_)
      exact ret1 hcx rfl (rv_tmp rfl) (.of (by rw [hL0]; rfl)) en
    · refine tri_as 6 (Z := T.c (.bool false)) rfl (.of (by rw [hf])) ?_
      refine tri_reg mixed hcx ?_ _ _
      refine mv rfl ?_
      refine mv rfl ?_
      refine j_off rfl rfl rfl rfl ?_
      refine j_off rfl rfl rfl rfl ?_
      refine j_off rfl rfl rfl rfl ?_
      refine j_off rfl rfl rfl rfl ?_
      refine pk rfl rfl ?_
      refine mv rfl ?_
      refine mv rfl ?_ (hg := gd1)
      refine nt rfl _ rfl ?_ (hg := gd1)
      refine mv rfl ?_ (hg := gd1)
      refine fa rfl fLo 0 ?_ (hg := gd1)
      refine ld rfl rfl tyF rfl ?_ (hg := gd1)
      refine fgt rfl rfl h1 ?_ (hg := gd1)
      refine pk rfl rfl ?_ (hg := gd1)
      refine pk rfl rfl ?_
      refine ⟨by kernel_rfl, ?_⟩
      refine nx (sl 2 rfl (sl 3 rfl (sl 29 rfl sn))) (el 10 rfl (el 11 rfl (el 116 rfl en))) ?_
      refine tri_false rfl rfl ?_
      refine tri_skip ?_
      exact pn_join () hL0 (sl 2 rfl (sl 3 rfl sn)) (el 10 rfl (el 11 rfl en))
  · rintro _ hL
    refine tri_sub (sl 2 rfl (sl 3 rfl sn)) (el 10 rfl (el 11 rfl en)) ?_
    refine tri_seq ?_
    refine tri_reg mixed hcx ?_ _ _
    refine fa rfl fHi 1 ?_
    refine ld rfl rfl tyF rfl ?_
    refine caf rfl (h := r9_Exact) (hn := ?_)
    refine mv rfl ?_
    refine ex rfl rfl ?_
    refine ex rfl rfl ?_
    refine nw 416 zeQ ?_
    refine sts rfl rfl rfl tyQ rfl ?_
    refine asg rfl ?_
    refine ⟨by kernel_rfl, ?_⟩
    refine nx (sl 2 rfl (sl 3 rfl (sl 6 rfl (sl 7 rfl sn)))) (el 10 rfl (el 11 rfl (el 416 rfl en))) ?_
    refine tri_seq ?_
    rcases hi_cases hy ((c : Rat) / (d : Rat)) with ⟨hf, h1, hH0⟩ | ⟨hf, h1, hH0⟩ | ⟨hf, h1, hH0⟩ | ⟨hf, h1, hH0⟩
    · refine tri_as 6 (Z := T.c (.bool true)) rfl (.of (by rw [hf])) ?_
      refine tri_reg mixed hcx ?_ _ _
      refine mv rfl ?_
      refine mv rfl ?_
      refine ld rfl rfl tyQ rfl ?_ (hg := gd1)
      refine ld rfl rfl tyQ rfl ?_ (hg := gd1)
      refine ca rfl (h := (fn_out (r03_CmpG hd (show 0 < ((oq (some y)).den : Int) from by have := (oq (some y)).den_pos; omega) (by omega) (by omega)) (ci (by rw [rat_nd])))) (hn := ?_) (hg := gd1)
      refine cgt rfl rfl (decide_eq_false (mt (qq_lt _ _).1 h1)) ?_ (hg := gd1)
      refine pk rfl rfl ?_
      refine mv rfl ?_
      refine mv rfl ?_ (hg := gd1)
      refine nt rfl _ rfl ?_ (hg := gd1)
      refine mv rfl ?_ (hg := gd1)
      refine j_off rfl rfl rfl rfl ?_
      refine j_off rfl rfl rfl rfl ?_
      refine j_off rfl rfl rfl rfl ?_
      refine pk rfl rfl ?_ (hg := gd1)
      refine pk rfl rfl ?_
      refine nt rfl _ rfl ?_
      refine asg rfl ?_
      refine ⟨by kernel_rfl, ?_⟩
      refine nx (sl 4 rfl sn) (el 10 rfl (el 11 rfl (el 416 rfl en))) ?_
      refine tri_ret ?_
      repeat (first | refine pn_thenr ?_ | refine pn_blkr ?_)
      exact ret1 hcx rfl (rv_tmp rfl) (.of (by rw [hL, hH0]; rfl)) en
    · refine tri_as 6 (Z := T.c (.bool true)) rfl (.of (by rw [hf])) ?_
      refine tri_reg mixed hcx ?_ _ _
      refine mv rfl ?_
      refine mv rfl ?_
      refine ld rfl rfl tyQ rfl ?_ (hg := gd1)
      refine ld rfl rfl tyQ rfl ?_ (hg := gd1)
      refine ca rfl (h := (fn_out (r03_CmpG hd (show 0 < ((oq (some y)).den : Int) from by have := (oq (some y)).den_pos; omega) (by omega) (by omega)) (ci (by rw [rat_nd])))) (hn := ?_) (hg := gd1)
      refine cgt rfl rfl (decide_eq_true ((qq_lt _ _).2 h1)) ?_ (hg := gd1)
      refine pk rfl rfl ?_
      refine mv rfl ?_
      refine j_off rfl rfl rfl rfl ?_
      refine j_off rfl rfl rfl rfl ?_
      refine j_off rfl rfl rfl rfl ?_
      refine j_ofu rfl rfl rfl ?_
      refine j_ofu rfl rfl rfl ?_
      refine j_ofu rfl rfl rfl ?_
      refine j_off rfl rfl rfl rfl ?_
      refine pk rfl rfl ?_
      refine nt rfl _ rfl ?_
      refine asg rfl ?_
      refine ⟨by kernel_rfl, ?_⟩
      refine nx (sl 4 rfl sn) (el 10 rfl (el 11 rfl (el 416 rfl en))) ?_
      refine tri_ret ?_
      repeat (first | refine pn_thenr ?_ | refine pn_blkr ?_)
      exact ret1 hcx rfl (rv_tmp rfl) (.of (by rw [hL, hH0]; rfl)) en
    · refine tri_as 6 (Z := T.c (.bool false)) rfl (.of (by rw [hf])) ?_
      refine tri_reg mixed hcx ?_ _ _
      refine mv rfl ?_
      refine mv rfl ?_
      refine j_off rfl rfl rfl rfl ?_
      refine j_off rfl rfl rfl rfl ?_
      refine j_off rfl rfl rfl rfl ?_
      refine j_off rfl rfl rfl rfl ?_
      refine pk rfl rfl ?_
      refine mv rfl ?_
      refine mv rfl ?_ (hg := gd1)
      refine nt rfl _ rfl ?_ (hg := gd1)
      refine mv rfl ?_ (hg := gd1)
      refine fa rfl fHi 1 ?_ (hg := gd1)
      refine ld rfl rfl tyF rfl ?_ (hg := gd1)
      refine flt rfl rfl h1 ?_ (hg := gd1)
      refine pk rfl rfl ?_ (hg := gd1)
      refine pk rfl rfl ?_
      refine nt rfl _ rfl ?_
      refine asg rfl ?_
      refine ⟨by kernel_rfl, ?_⟩
      refine nx (sl 4 rfl sn) (el 10 rfl (el 11 rfl (el 416 rfl en))) ?_
      refine tri_ret ?_
      repeat (first | refine pn_thenr ?_ | refine pn_blkr ?_)
      exact ret1 hcx rfl (rv_tmp rfl) (.of (by rw [hL, hH0]; rfl)) en
    · refine tri_as 6 (Z := T.c (.bool false)) rfl (.of (by rw [hf])) ?_
      refine tri_reg mixed hcx ?_ _ _
      refine mv rfl ?_
      refine mv rfl ?_
      refine j_off rfl rfl rfl rfl ?_
      refine j_off rfl rfl rfl rfl ?_
      refine j_off rfl rfl rfl rfl ?_
      refine j_off rfl rfl rfl rfl ?_
      refine pk rfl rfl ?_
      refine mv rfl ?_
      refine mv rfl ?_ (hg := gd1)
      refine nt rfl _ rfl ?_ (hg := gd1)
      refine mv rfl ?_ (hg := gd1)
      refine fa rfl fHi 1 ?_ (hg := gd1)
      refine ld rfl rfl tyF rfl ?_ (hg := gd1)
      refine flt rfl rfl h1 ?_ (hg := gd1)
      refine pk rfl rfl ?_ (hg := gd1)
      refine pk rfl rfl ?_
      refine nt rfl _ rfl ?_
      refine asg rfl ?_
      refine ⟨by kernel_rfl, ?_⟩
      refine nx (sl 4 rfl sn) (el 10 rfl (el 11 rfl (el 416 rfl en))) ?_
      refine tri_ret ?_
      repeat (first | refine pn_thenr ?_ | refine pn_blkr ?_)
      exact ret1 hcx rfl (rv_tmp rfl) (.of (by rw [hL, hH0]; rfl)) en
end Go.Proofs.Ytlmiadjogdfjkaa.V
