/- The law of the lengths. -/
import Derived.Test.YtbihfnjmdpbkgaaKS
import Derived.Test.YtbihfnjmdpbkgaaKH
set_option linter.unusedVariables false
set_option linter.unusedSimpArgs false
set_option maxRecDepth 100000
namespace Go.Proofs.Ytbihfnjmdpbkgaa.V
open Go.RowKit Mt Nml
theorem zl_bits {z : Int} (h : nbits z.natAbs ≤ 256) : zl z ≤ 8 := by
  unfold zl
  refine lim_le ?_
  have h1 := lt_nbits z.natAbs
  have h2 : 2 ^ nbits z.natAbs ≤ 2 ^ 256 := Nat.pow_le_pow_right (by omega) h
  have h3 : B 8 = ((2 ^ 256 : Nat) : Int) := by decide
  rw [h3]
  exact Int.ofNat_lt.2 (Nat.lt_of_lt_of_le h1 h2)
theorem ent_bits {b : List (List Int)} (h : matB b b.length ≤ 256) (i j : Nat) : zl ((b.getD i []).getD j 0) ≤ 8 := by
  by_cases hi : i < b.length
  · by_cases hj : j < (b.getD i []).length
    · exact zl_bits (Nat.le_trans (matB_at hi hj) h)
    · rw [List.getD_eq_getElem?_getD (l := b.getD i []), List.getElem?_eq_none (by omega)]
      show zl 0 ≤ 8
      rw [zl_zero]; omega
  · rw [List.getD_eq_getElem?_getD (l := b), List.getElem?_eq_none (by omega)]
    show zl (([] : List Int).getD j 0) ≤ 8
    rw [show ([] : List Int).getD j 0 = 0 from by simp, zl_zero]; omega
theorem val_S {b : List (List Int)} (h : matB b b.length ≤ 256) (hr : ∀ i, i < b.length → (b.getD i []).length ≤ 12) : ∀ i j, i < b.length → j ≤ i → zl (dotU (b.getD i []) (b.getD j []) (b.getD i []).length) ≤ 204 := fun i j hi hj =>
  Nat.le_trans (zl_dotU (ent_bits h i) (ent_bits h j) _) (Nat.le_trans (Nat.mul_le_mul_right _ (hr i hi)) (by decide))
theorem shr_zero {b : List (List Int)} {q : Bool} (h : ShR b q 0) : ¬ BigB b q ∧ b.length ≠ 0 ∧ ¬ BadB b := by
  have h1 : ¬ BigB b q := fun k => by have := h.big k; omega
  have h2 : b.length ≠ 0 := fun k => by have := h.nil h1 k; omega
  exact ⟨h1, h2, fun k => by have := h.bad h1 h2 k; omega⟩
/-- Rows that may be a basis, but for dependence. -/
theorem shr_basis {b : List (List Int)} (h : ShR b true 0) : 0 < b.length ∧ b.length ≤ 12 ∧ (∀ i, i < b.length → (b.getD i []).length = (b.getD 0 []).length) ∧ (b.getD 0 []).length ≤ 12 ∧ matB b b.length ≤ 256 := by
  obtain ⟨h1, h2, h3⟩ := shr_zero h
  refine ⟨by omega, Nat.not_lt.1 fun k => h1 (.inl k), fun i hi => Decidable.not_not.1 fun e => h3 ⟨i, hi, e⟩, Nat.not_lt.1 fun k => h1 (.inr (.inr ⟨0, by omega, k⟩)), Nat.not_lt.1 fun k => h1 (.inr (.inl ⟨rfl, k⟩))⟩
theorem g_le {D : List Int} {L : List (List Int)} {K : Nat} : (T.st [T.l (cZ K) D, T.l (cL (cZ K)) L]).le (T.G D L K) := st_le (l := [T.l (cZ K) D, T.l (cL (cZ K)) L]) (l' := [T.l (cZi K) D, T.l (cL (cZi K)) L]) ⟨tl_le (fun z => z_zi z K) D, tl_le (fun r => tl_le (fun z => z_zi z K) r) L, trivial⟩
theorem g_mono {D : List Int} {L : List (List Int)} {K K' : Nat} (h : K ≤ K') : (T.G D L K).le (T.G D L K') := st_le (l := [T.l (cZi K) D, T.l (cL (cZi K)) L]) (l' := [T.l (cZi K') D, T.l (cL (cZi K')) L]) ⟨tl_le (fun z => zi_mono h) D, tl_le (fun r => tl_le (fun z => zi_mono h) r) L, trivial⟩
theorem sb_bound {n k : Nat} (h : n ≤ 12) (hk : k ≤ 1048576) : n * (k + k + 1) + (2 * (k + k + n) + 1) ≤ 33554432 := by
  have := Nat.mul_le_mul h (show k + k + 1 ≤ 2097153 by omega)
  omega
theorem li_mono {x : List Int} {k k' : Nat} (h : k ≤ k') : (T.l (cZi k) x).le (T.l (cZi k') x) := tl_le (fun z => zi_mono h) x

theorem lengths_err {b : List (List Int)} {x : List Int} {k : Nat} {r : Int} (hk : k ≤ 1048576) (hrr : ∀ i, i < b.length → (b.getD i []).length ≤ 1048576) (hbl : b.length ≤ 1048576) (hxl : x.length ≤ 1048576) (hR : ShR b true r) (hr : r ≠ 0) : Fn Try.prog 12 [T.l (cL (cZi k)) b, T.l (cZi k) x] [] [] [] (T.c (.bool true)) := by
  refine fn_of Try.func12 rfl (by show 2 ≤ 61; decide) fun cx hcx => ?_
  refine tri_sub (sl 0 rfl (sl 1 rfl sn)) en ?_
  refine tri_seq ?_
  refine tri_reg mixed hcx ?_ _ _
  refine asg rfl ?_
  refine ⟨by kernel_rfl, ?_⟩
  refine nx (sl 0 rfl (sl 1 rfl sn)) en ?_
  refine tri_seq ?_
  refine tri_seq ?_
  refine tri_reg mixed hcx ?_ _ _
  refine ca rfl (h := law_awake) (hn := ?_)
  refine nt rfl _ rfl ?_
  refine ⟨by kernel_rfl, ?_⟩
  refine nx (sl 0 rfl (sl 1 rfl (sl 11 rfl sn))) en ?_
  refine tri_false rfl rfl ?_
  refine tri_skip ?_
  refine nx (sl 0 rfl (sl 1 rfl sn)) en ?_
  refine tri_seq ?_
  refine tri_reg mixed hcx ?_ _ _
  refine mv rfl ?_
  refine ca rfl (h := g_Of_err hk hrr hbl hR hr) (hn := ?_)
  refine mv rfl ?_
  refine ex rfl rfl ?_
  refine ex rfl rfl ?_
  refine nw 315 zeG ?_
  refine sts rfl rfl rfl tyG rfl ?_
  refine asg rfl ?_
  refine ⟨by kernel_rfl, ?_⟩
  refine nx (sl 0 rfl (sl 1 rfl (sl 5 rfl (sl 6 rfl sn)))) (el 315 rfl en) ?_
  refine tri_seq ?_
  refine tri_seq ?_
  refine tri_reg mixed hcx ?_ _ _
  refine mv rfl ?_
  refine ca rfl (h := r05_Valid_err hk hrr hbl hR hr) (hn := ?_)
  refine cne rfl rfl (decide_eq_true hr) ?_
  refine ⟨by kernel_rfl, ?_⟩
  refine nx (sl 0 rfl (sl 1 rfl (sl 5 rfl (sl 6 rfl (sl 19 rfl sn))))) (el 315 rfl en) ?_
  refine tri_true rfl rfl ?_
  refine tri_seq ?_
  refine tri_reg mixed hcx ?_ _ _
  refine mv rfl ?_
  refine cne rfl rfl (decide_eq_true hr) ?_
  refine mv rfl ?_
  refine fa rfl fD 0 ?_ (hg := gd1)
  refine ld rfl rfl tyZs rfl ?_ (hg := gd1)
  refine ln slZs rfl ?_ (hg := gd1)
  refine ceq rfl rfl (decide_eq_true (by omega)) ?_ (hg := gd1)
  refine pk rfl rfl ?_
  refine asg rfl ?_
  refine ⟨by kernel_rfl, ?_⟩
  refine nx (sl 4 rfl sn) (el 315 rfl en) ?_
  refine tri_ret ?_
  repeat (first | refine pn_thenr ?_ | refine pn_blkr ?_)
  exact ret1 hcx rfl (rv_tmp rfl) (.refl _) en

theorem lengths_no {b : List (List Int)} {x : List Int} {k : Nat} (hk : k ≤ 1048576) (hrr : ∀ i, i < b.length → (b.getD i []).length ≤ 1048576) (hbl : b.length ≤ 1048576) (hxl : x.length ≤ 1048576) (hR : ShR b true 0) (h : bld b b.length = none) : Fn Try.prog 12 [T.l (cL (cZi k)) b, T.l (cZi k) x] [] [] [] (T.c (.bool true)) := by
  refine fn_of Try.func12 rfl (by show 2 ≤ 61; decide) fun cx hcx => ?_
  refine tri_sub (sl 0 rfl (sl 1 rfl sn)) en ?_
  obtain ⟨h0, hb, hm, hm12, hbits⟩ := shr_basis hR
  have hS := val_S hbits (fun i hi => by rw [hm i hi]; exact hm12)
  refine tri_seq ?_
  refine tri_reg mixed hcx ?_ _ _
  refine asg rfl ?_
  refine ⟨by kernel_rfl, ?_⟩
  refine nx (sl 0 rfl (sl 1 rfl sn)) en ?_
  refine tri_seq ?_
  refine tri_seq ?_
  refine tri_reg mixed hcx ?_ _ _
  refine ca rfl (h := law_awake) (hn := ?_)
  refine nt rfl _ rfl ?_
  refine ⟨by kernel_rfl, ?_⟩
  refine nx (sl 0 rfl (sl 1 rfl (sl 11 rfl sn))) en ?_
  refine tri_false rfl rfl ?_
  refine tri_skip ?_
  refine nx (sl 0 rfl (sl 1 rfl sn)) en ?_
  refine tri_seq ?_
  refine tri_reg mixed hcx ?_ _ _
  refine mv rfl ?_
  refine ca rfl (h := g_Of_no (K := 839679) h0 hb hm hk hm12 hR h hS (by decide) (by decide) (by decide)) (hn := ?_)
  refine mv rfl ?_
  refine ex rfl rfl ?_
  refine ex rfl rfl ?_
  refine nw 315 zeG ?_
  refine sts rfl rfl rfl tyG rfl ?_
  refine asg rfl ?_
  refine ⟨by kernel_rfl, ?_⟩
  refine nx (sl 0 rfl (sl 1 rfl (sl 5 rfl (sl 6 rfl sn)))) (el 315 rfl en) ?_
  refine tri_seq ?_
  refine tri_seq ?_
  refine tri_reg mixed hcx ?_ _ _
  refine mv rfl ?_
  refine ca rfl (h := r05_Valid_no (K := 839679) (bld_none h) h0 hb hm hk hm12 hR hS (by decide) (by decide) (by decide)) (hn := ?_)
  refine cne rfl rfl (decide_eq_true (by omega)) ?_
  refine ⟨by kernel_rfl, ?_⟩
  refine nx (sl 0 rfl (sl 1 rfl (sl 5 rfl (sl 6 rfl (sl 19 rfl sn))))) (el 315 rfl en) ?_
  refine tri_true rfl rfl ?_
  refine tri_seq ?_
  refine tri_reg mixed hcx ?_ _ _
  refine mv rfl ?_
  refine cne rfl rfl (decide_eq_true (by omega)) ?_
  refine mv rfl ?_
  refine fa rfl fD 0 ?_ (hg := gd1)
  refine ld rfl rfl tyZs rfl ?_ (hg := gd1)
  refine ln slZs rfl ?_ (hg := gd1)
  refine ceq rfl rfl (decide_eq_true (by omega)) ?_ (hg := gd1)
  refine pk rfl rfl ?_
  refine asg rfl ?_
  refine ⟨by kernel_rfl, ?_⟩
  refine nx (sl 4 rfl sn) (el 315 rfl en) ?_
  refine tri_ret ?_
  repeat (first | refine pn_thenr ?_ | refine pn_blkr ?_)
  exact ret1 hcx rfl (rv_tmp rfl) (.refl _) en

theorem lengths_shape {b : List (List Int)} {x : List Int} {k : Nat} {D0 : List Int} {L0 : List (List Int)} (hk : k ≤ 1048576) (hrr : ∀ i, i < b.length → (b.getD i []).length ≤ 1048576) (hbl : b.length ≤ 1048576) (hxl : x.length ≤ 1048576) (hR : ShR b true 0) (h : bld b b.length = some (D0, L0)) (hx : x.length ≠ b.length) : Fn Try.prog 12 [T.l (cL (cZi k)) b, T.l (cZi k) x] [] [] [] (T.c (.bool true)) := by
  refine fn_of Try.func12 rfl (by show 2 ≤ 61; decide) fun cx hcx => ?_
  refine tri_sub (sl 0 rfl (sl 1 rfl sn)) en ?_
  obtain ⟨h0, hb, hm, hm12, hbits⟩ := shr_basis hR
  have hS := val_S hbits (fun i hi => by rw [hm i hi]; exact hm12)
  have hI := bld_DI h
  have hlD := hI.lD; have hlL := hI.lL
  have hG := hI.good h0
  have hnx : x.length ≤ 1048576 := hxl
  have hgl : (T.st [T.l (cZ 839679) D0, T.l (cL (cZ 839679)) L0]).le (T.G D0 L0 1048576) := g_le.trans (g_mono (by decide))
  have hxk : (T.l (cZi k) x).le (T.l (cZi 1048576) x) := li_mono hk
  refine tri_seq ?_
  refine tri_reg mixed hcx ?_ _ _
  refine asg rfl ?_
  refine ⟨by kernel_rfl, ?_⟩
  refine nx (sl 0 rfl (sl 1 rfl sn)) en ?_
  refine tri_seq ?_
  refine tri_seq ?_
  refine tri_reg mixed hcx ?_ _ _
  refine ca rfl (h := law_awake) (hn := ?_)
  refine nt rfl _ rfl ?_
  refine ⟨by kernel_rfl, ?_⟩
  refine nx (sl 0 rfl (sl 1 rfl (sl 11 rfl sn))) en ?_
  refine tri_false rfl rfl ?_
  refine tri_skip ?_
  refine nx (sl 0 rfl (sl 1 rfl sn)) en ?_
  refine tri_seq ?_
  refine tri_reg mixed hcx ?_ _ _
  refine mv rfl ?_
  refine ca rfl (h := g_Of_ok (K := 839679) h0 hb hm hk hm12 hR h hS (by decide) (by decide) (by decide)) (hn := ?_)
  refine mv rfl ?_
  refine ex rfl rfl ?_
  refine ex rfl rfl ?_
  refine nw 315 zeG ?_
  refine sts rfl rfl rfl tyG rfl ?_
  refine asg rfl ?_
  refine ⟨by kernel_rfl, ?_⟩
  refine nx (sl 0 rfl (sl 1 rfl (sl 5 rfl (sl 6 rfl sn)))) (el 315 rfl en) ?_
  refine tri_seq ?_
  refine tri_seq ?_
  refine tri_reg mixed hcx ?_ _ _
  refine mv rfl ?_
  refine ca rfl (h := r05_Valid_ok (K := 839679) hI.ok h0 hb hm hk hm12 hR hS (by decide) (by decide) (by decide)) (hn := ?_)
  refine cne rfl rfl (decide_eq_false (by omega)) ?_
  refine ⟨by kernel_rfl, ?_⟩
  refine nx (sl 0 rfl (sl 1 rfl (sl 5 rfl (sl 6 rfl (sl 19 rfl sn))))) (el 315 rfl en) ?_
  refine tri_false rfl rfl ?_
  refine tri_skip ?_
  refine nx (sl 0 rfl (sl 1 rfl (sl 5 rfl (sl 6 rfl sn)))) (el 315 rfl en) ?_
  refine tri_seq ?_
  refine tri_reg mixed hcx ?_ _ _
  refine ld rfl rfl tyG rfl ?_
  refine mv rfl ?_
  refine ca rfl (h := g_Norm_shape (k := 1048576) (by decide) (by omega) (by omega) (by omega) hG (by omega)) (hn := ?_)
  refine mv rfl ?_
  refine ex rfl rfl ?_
  refine ex rfl rfl ?_
  refine nw 616 zeQ ?_
  refine st rfl rfl rfl tyQ rfl ?_
  refine asg rfl ?_
  refine ⟨by kernel_rfl, ?_⟩
  refine nx (sl 0 rfl (sl 1 rfl (sl 6 rfl (sl 7 rfl (sl 8 rfl sn))))) (el 315 rfl (el 616 rfl en)) ?_
  refine tri_seq ?_
  refine tri_seq ?_
  refine tri_reg mixed hcx ?_ _ _
  refine mv rfl ?_
  refine ln slZs rfl ?_
  refine mv rfl ?_
  refine ln slZss rfl ?_
  refine cne rfl rfl (decide_eq_true (by omega)) ?_
  refine ⟨by kernel_rfl, ?_⟩
  refine nx (sl 0 rfl (sl 1 rfl (sl 6 rfl (sl 7 rfl (sl 8 rfl (sl 38 rfl sn)))))) (el 315 rfl (el 616 rfl en)) ?_
  refine tri_true rfl rfl ?_
  refine tri_seq ?_
  refine tri_reg mixed hcx ?_ _ _
  refine mv rfl ?_
  refine ceq rfl rfl (decide_eq_true (by omega)) ?_
  refine asg rfl ?_
  refine ⟨by kernel_rfl, ?_⟩
  refine nx (sl 4 rfl sn) (el 315 rfl (el 616 rfl en)) ?_
  refine tri_ret ?_
  repeat (first | refine pn_thenr ?_ | refine pn_blkr ?_)
  exact ret1 hcx rfl (rv_tmp rfl) (.refl _) en

theorem lengths_ok {b : List (List Int)} {x : List Int} {k : Nat} {D0 : List Int} {L0 : List (List Int)} (hk : k ≤ 1048576) (hrr : ∀ i, i < b.length → (b.getD i []).length ≤ 1048576) (hbl : b.length ≤ 1048576) (hxl : x.length ≤ 1048576) (hR : ShR b true 0) (h : bld b b.length = some (D0, L0)) (hx : x.length = b.length) : Fn Try.prog 12 [T.l (cL (cZi k)) b, T.l (cZi k) x] [] [] [] (T.c (.bool true)) := by
  refine fn_of Try.func12 rfl (by show 2 ≤ 61; decide) fun cx hcx => ?_
  refine tri_sub (sl 0 rfl (sl 1 rfl sn)) en ?_
  obtain ⟨h0, hb, hm, hm12, hbits⟩ := shr_basis hR
  have hS := val_S hbits (fun i hi => by rw [hm i hi]; exact hm12)
  have hI := bld_DI h
  have hlD := hI.lD; have hlL := hI.lL
  have hG := hI.good h0
  have hnx : x.length ≤ 1048576 := hxl
  have hgl : (T.st [T.l (cZ 839679) D0, T.l (cL (cZ 839679)) L0]).le (T.G D0 L0 1048576) := g_le.trans (g_mono (by decide))
  have hxk : (T.l (cZi k) x).le (T.l (cZi 1048576) x) := li_mono hk
  have hvl : (vU b x ((b.getD 0 []).length) b.length).length = ((b.getD 0 []).length) := vU_len _ _ _ _
  have hnm : sU D0 L0 x L0.length L0.length = ((dotU (vU b x ((b.getD 0 []).length) b.length) (vU b x ((b.getD 0 []).length) b.length) (vU b x ((b.getD 0 []).length) b.length).length : Int) : Rat) := by rw [hlL, hvl]; exact norm_len hI hm
  have hnb : b.length * (k + k + 1) ≤ 12 * 2097153 := Nat.mul_le_mul hb (by omega)
  have hpr : prU [x] b ((b.getD 0 []).length) 1 = [(vU b x ((b.getD 0 []).length) b.length)] := by show [vU b x _ x.length] = _; rw [hx]
  have hv12 : (vU b x ((b.getD 0 []).length) b.length).length ≤ 12 := by omega
  have hb2 : b.length * (k + k + 1) + b.length * (k + k + 1) + 1 ≤ 50331673 := by omega
  have hdk : (vU b x ((b.getD 0 []).length) b.length).length * (b.length * (k + k + 1) + b.length * (k + k + 1) + 1) ≤ 1099511627776 := Nat.le_trans (Nat.mul_le_mul hv12 hb2) (by omega)
  have hsb := sb_bound (n := L0.length) (k := 1048576) (by omega) (Nat.le_refl _)
  have hNorm := fn_out (g_Norm (k := 1048576) (SB := 33554432) (x := x) (by decide) hG (by omega) (by omega) hsb (by decide) (by decide)) (tup_le (l' := [T.Q ((dotU (vU b x ((b.getD 0 []).length) b.length) (vU b x ((b.getD 0 []).length) b.length) (vU b x ((b.getD 0 []).length) b.length).length : Int) : Rat) 33554432, T.c (.int .i64 0)]) ⟨q_eq hnm (Nat.le_refl _), .refl _, trivial⟩)
  refine tri_seq ?_
  refine tri_reg mixed hcx ?_ _ _
  refine asg rfl ?_
  refine ⟨by kernel_rfl, ?_⟩
  refine nx (sl 0 rfl (sl 1 rfl sn)) en ?_
  refine tri_seq ?_
  refine tri_seq ?_
  refine tri_reg mixed hcx ?_ _ _
  refine ca rfl (h := law_awake) (hn := ?_)
  refine nt rfl _ rfl ?_
  refine ⟨by kernel_rfl, ?_⟩
  refine nx (sl 0 rfl (sl 1 rfl (sl 11 rfl sn))) en ?_
  refine tri_false rfl rfl ?_
  refine tri_skip ?_
  refine nx (sl 0 rfl (sl 1 rfl sn)) en ?_
  refine tri_seq ?_
  refine tri_reg mixed hcx ?_ _ _
  refine mv rfl ?_
  refine ca rfl (h := g_Of_ok (K := 839679) h0 hb hm hk hm12 hR h hS (by decide) (by decide) (by decide)) (hn := ?_)
  refine mv rfl ?_
  refine ex rfl rfl ?_
  refine ex rfl rfl ?_
  refine nw 315 zeG ?_
  refine sts rfl rfl rfl tyG rfl ?_
  refine asg rfl ?_
  refine ⟨by kernel_rfl, ?_⟩
  refine nx (sl 0 rfl (sl 1 rfl (sl 5 rfl (sl 6 rfl sn)))) (el 315 rfl en) ?_
  refine tri_seq ?_
  refine tri_seq ?_
  refine tri_reg mixed hcx ?_ _ _
  refine mv rfl ?_
  refine ca rfl (h := r05_Valid_ok (K := 839679) hI.ok h0 hb hm hk hm12 hR hS (by decide) (by decide) (by decide)) (hn := ?_)
  refine cne rfl rfl (decide_eq_false (by omega)) ?_
  refine ⟨by kernel_rfl, ?_⟩
  refine nx (sl 0 rfl (sl 1 rfl (sl 5 rfl (sl 6 rfl (sl 19 rfl sn))))) (el 315 rfl en) ?_
  refine tri_false rfl rfl ?_
  refine tri_skip ?_
  refine nx (sl 0 rfl (sl 1 rfl (sl 5 rfl (sl 6 rfl sn)))) (el 315 rfl en) ?_
  refine tri_seq ?_
  refine tri_reg mixed hcx ?_ _ _
  refine ld rfl rfl tyG rfl ?_
  refine mv rfl ?_
  refine ca rfl (h := hNorm) (hn := ?_)
  refine mv rfl ?_
  refine ex rfl rfl ?_
  refine ex rfl rfl ?_
  refine nw 616 zeQ ?_
  refine sts rfl rfl rfl tyQ rfl ?_
  refine asg rfl ?_
  refine ⟨by kernel_rfl, ?_⟩
  refine nx (sl 0 rfl (sl 1 rfl (sl 6 rfl (sl 7 rfl (sl 8 rfl sn))))) (el 315 rfl (el 616 rfl en)) ?_
  refine tri_seq ?_
  refine tri_seq ?_
  refine tri_reg mixed hcx ?_ _ _
  refine mv rfl ?_
  refine ln slZs rfl ?_
  refine mv rfl ?_
  refine ln slZss rfl ?_
  refine cne rfl rfl (decide_eq_false (by omega)) ?_
  refine ⟨by kernel_rfl, ?_⟩
  refine nx (sl 0 rfl (sl 1 rfl (sl 6 rfl (sl 7 rfl (sl 8 rfl (sl 38 rfl sn)))))) (el 315 rfl (el 616 rfl en)) ?_
  refine tri_false rfl rfl ?_
  refine tri_skip ?_
  refine nx (sl 0 rfl (sl 1 rfl (sl 6 rfl (sl 7 rfl (sl 8 rfl sn))))) (el 315 rfl (el 616 rfl en)) ?_
  refine tri_seq ?_
  refine tri_reg mixed hcx ?_ _ _
  refine mv rfl ?_
  refine bs (c := cL (cZi k)) (xs := [x]) slZss rfl ⟨.refl _, trivial⟩ ?_
  refine mv rfl ?_
  refine ca rfl (h := (fn_out (r05_Product (a := [x]) (kx := k) (kb := k) (m := ((b.getD 0 []).length)) (nb := b.length) h0 (by show 1 ≤ _; omega) (by omega) hm (by omega) (fun i hi => by match i, hi with | 0, _ => exact ⟨by show x.length ≤ _; omega, by show x.length ≤ _; omega⟩) hk hk (by omega)) (.of (by rw [show [x].length = 1 from rfl, hpr])))) (hn := ?_)
  refine ix rfl rfl slZss ⟨(rfl : _ = ((0 : Nat) : Int)), by show 0 < 1; omega⟩ ?_
  refine lf rfl tyZs ?_
  refine asg rfl ?_
  refine ⟨by kernel_rfl, ?_⟩
  refine nx (sl 6 rfl (sl 7 rfl (sl 8 rfl (sl 9 rfl sn)))) (el 315 rfl (el 616 rfl en)) ?_
  refine tri_seq ?_
  refine tri_as 9 (Z := T.l (cZi (b.length * (k + k + 1))) (vU b x ((b.getD 0 []).length) b.length)) rfl (tl_le (fun z => z_zi z _) _) ?_
  refine tri_reg mixed hcx ?_ _ _
  refine mv rfl ?_
  refine ceq rfl rfl (decide_eq_true (by omega)) ?_
  refine mv rfl ?_
  refine mv rfl ?_ (hg := gd1)
  refine ceq rfl rfl (decide_eq_true (by omega)) ?_ (hg := gd1)
  refine pk rfl rfl ?_
  refine mv rfl ?_
  refine ld rfl rfl tyQ rfl ?_ (hg := gd1)
  refine mv rfl ?_ (hg := gd1)
  refine mv rfl ?_ (hg := gd1)
  refine ca rfl (h := r05_Dot (xs := (vU b x ((b.getD 0 []).length) b.length)) (ys := (vU b x ((b.getD 0 []).length) b.length)) (k := b.length * (k + k + 1)) (l := b.length * (k + k + 1)) rfl (by omega) (by omega) (by omega) hdk) (hn := ?_) (hg := gd1)
  refine ca rfl (h := r03_Of (by omega)) (hn := ?_) (hg := gd1)
  refine ca rfl (h := law_same (by omega) (by omega)) (hn := ?_) (hg := gd1)
  refine pk rfl rfl ?_
  refine asg rfl ?_
  refine ⟨by kernel_rfl, ?_⟩
  refine nx (sl 4 rfl sn) (el 315 rfl (el 616 rfl en)) ?_
  refine tri_ret ?_
  repeat (first | refine pn_thenr ?_ | refine pn_blkr ?_)
  exact ret1 hcx rfl (rv_tmp rfl) (.refl _) en

/-- The law, of all rows and numbers. -/
theorem lengths_all {b : List (List Int)} {x : List Int} {k : Nat} (hk : k ≤ 1048576) (hrr : ∀ i, i < b.length → (b.getD i []).length ≤ 1048576) (hbl : b.length ≤ 1048576) (hxl : x.length ≤ 1048576) : Fn Try.prog 12 [T.l (cL (cZi k)) b, T.l (cZi k) x] [] [] [] (T.c (.bool true)) := by
  obtain ⟨r, hR⟩ := ShR.ex b true
  by_cases hr : r = 0
  · subst hr
    cases h : bld b b.length with
    | none => exact lengths_no hk hrr hbl hxl hR h
    | some p =>
      obtain ⟨D0, L0⟩ := p
      by_cases hx : x.length = b.length
      · exact lengths_ok hk hrr hbl hxl hR h hx
      · exact lengths_shape hk hrr hbl hxl hR h hx
  · exact lengths_err hk hrr hbl hxl hR hr
end Go.Proofs.Ytbihfnjmdpbkgaa.V
