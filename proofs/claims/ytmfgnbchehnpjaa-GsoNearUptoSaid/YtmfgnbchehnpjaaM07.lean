/- The nearest point: the law's walk. -/
import Derived.Test.YtmfgnbchehnpjaaM06
set_option linter.unusedVariables false
set_option linter.unusedSimpArgs false
set_option maxRecDepth 100000
namespace Go.Proofs.Ytmfgnbchehnpjaa.V
open Go.RowKit Mt Nml
theorem shr_wide {b : List (List Int)} (h : ShR b true 0) : ShR b false 0 := by
  obtain ⟨h1, h2, h3⟩ := shr_zero h
  refine ⟨fun h4 => absurd ?_ h1, fun _ h4 => absurd h4 h2, fun _ _ h4 => absurd h4 h3, fun _ _ _ => rfl⟩
  rcases h4 with h5 | ⟨h5, _⟩ | h5
  · exact .inl h5
  · cases h5
  · exact .inr (.inr h5)

theorem g_Wide_ok {b : List (List Int)} {D0 : List Int} {L0 : List (List Int)} {k m S K : Nat} (h0 : 0 < b.length) (hb : b.length ≤ 12) (hm : ∀ i, i < b.length → (b.getD i []).length = m) (hk : k ≤ 1048576) (hm12 : m ≤ 12) (hR : ShR b false 0) (h : bld b b.length = some (D0, L0)) (hS : ∀ i j, i < b.length → j ≤ i → zl (dotU (b.getD i []) (b.getD j []) (b.getD i []).length) ≤ S) (hK1 : bd S 12 ≤ K) (hK2 : K ≤ 137438953472) (hK3 : 2 ≤ K) : Fn Try.prog 17 [T.l (cL (cZi k)) b] [] [] [] (T.tup [T.st [T.l (cZ K) D0, T.l (cL (cZ K)) L0], T.c (.int .i64 0)]) := by
  refine fn_of Try.func17 rfl (by show 1 ≤ 8; decide) fun cx hcx => ?_
  refine tri_sub (sl 0 rfl sn) en ?_
  refine tri_seq ?_
  refine tri_reg mixed hcx ?_ _ _
  refine nw 10 zeG ?_
  refine asg rfl ?_
  refine ⟨by kernel_rfl, ?_⟩
  refine nx (sl 0 rfl (sl 2 rfl sn)) (el 10 rfl en) ?_
  refine tri_seq ?_
  refine tri_reg mixed hcx ?_ _ _
  refine mv rfl ?_
  refine ca rfl (h := g_of_ok_f h0 hb hm hk hm12 hR h hS hK1 hK2 hK3) (hn := ?_)
  refine ex rfl rfl ?_
  refine ex rfl rfl ?_
  refine st rfl rfl rfl tyG rfl ?_
  refine asg rfl ?_
  refine ⟨by kernel_rfl, ?_⟩
  refine nx (sl 2 rfl (sl 3 rfl sn)) (el 10 rfl en) ?_
  refine tri_ret ?_
  repeat (first | refine pn_thenr ?_ | refine pn_blkr ?_)
  exact ret2 hcx rfl (rv_cell (c' := cx) (n := 0) rfl rfl tyG rfl) (rv_tmp rfl) (.refl _) en

theorem g_Valid_err {b : List (List Int)} {k : Nat} {r : Int} (hk : k ≤ 1048576) (hrr : ∀ i, i < b.length → (b.getD i []).length ≤ 1048576) (hbl : b.length ≤ 1048576) (hR : ShR b true r) (hr : r ≠ 0) : Fn Try.prog 19 [T.l (cL (cZi k)) b] [] [] [] (T.c (.int .i64 r)) := by
  refine fn_of Try.func19 rfl (by show 1 ≤ 11; decide) fun cx hcx => ?_
  refine tri_sub (sl 0 rfl sn) en ?_
  refine tri_seq ?_
  refine tri_reg mixed hcx ?_ _ _
  refine asg rfl ?_
  refine ⟨by kernel_rfl, ?_⟩
  refine nx (sl 0 rfl sn) en ?_
  refine tri_seq ?_
  refine tri_reg mixed hcx ?_ _ _
  refine mv rfl ?_
  refine ca rfl (h := g_of_err_t hk hrr hbl hR hr) (hn := ?_)
  refine mv rfl ?_
  refine ex rfl rfl ?_
  refine ex rfl rfl ?_
  refine nw 115 zeG ?_
  refine st rfl rfl rfl tyG rfl ?_
  refine asg rfl ?_
  refine ⟨by kernel_rfl, ?_⟩
  refine nx (sl 4 rfl sn) (el 115 rfl en) ?_
  refine tri_seq ?_
  refine tri_reg mixed hcx ?_ _ _
  refine mv rfl ?_
  refine asg rfl ?_
  refine ⟨by kernel_rfl, ?_⟩
  refine nx (sl 2 rfl sn) (el 115 rfl en) ?_
  refine tri_ret ?_
  repeat (first | refine pn_thenr ?_ | refine pn_blkr ?_)
  exact ret1 hcx rfl (rv_tmp rfl) (.refl _) en

theorem g_Valid_no {b : List (List Int)} {k m S K : Nat} (h0 : 0 < b.length) (hb : b.length ≤ 12) (hm : ∀ i, i < b.length → (b.getD i []).length = m) (hk : k ≤ 1048576) (hm12 : m ≤ 12) (hR : ShR b true 0) (h : bld b b.length = none) (hS : ∀ i j, i < b.length → j ≤ i → zl (dotU (b.getD i []) (b.getD j []) (b.getD i []).length) ≤ S) (hK1 : bd S 12 ≤ K) (hK2 : K ≤ 137438953472) (hK3 : 2 ≤ K) : Fn Try.prog 19 [T.l (cL (cZi k)) b] [] [] [] (T.c (.int .i64 50)) := by
  refine fn_of Try.func19 rfl (by show 1 ≤ 11; decide) fun cx hcx => ?_
  refine tri_sub (sl 0 rfl sn) en ?_
  refine tri_seq ?_
  refine tri_reg mixed hcx ?_ _ _
  refine asg rfl ?_
  refine ⟨by kernel_rfl, ?_⟩
  refine nx (sl 0 rfl sn) en ?_
  refine tri_seq ?_
  refine tri_reg mixed hcx ?_ _ _
  refine mv rfl ?_
  refine ca rfl (h := g_of_no_t h0 hb hm hk hm12 hR h hS hK1 hK2 hK3) (hn := ?_)
  refine mv rfl ?_
  refine ex rfl rfl ?_
  refine ex rfl rfl ?_
  refine nw 115 zeG ?_
  refine st rfl rfl rfl tyG rfl ?_
  refine asg rfl ?_
  refine ⟨by kernel_rfl, ?_⟩
  refine nx (sl 4 rfl sn) (el 115 rfl en) ?_
  refine tri_seq ?_
  refine tri_reg mixed hcx ?_ _ _
  refine mv rfl ?_
  refine asg rfl ?_
  refine ⟨by kernel_rfl, ?_⟩
  refine nx (sl 2 rfl sn) (el 115 rfl en) ?_
  refine tri_ret ?_
  repeat (first | refine pn_thenr ?_ | refine pn_blkr ?_)
  exact ret1 hcx rfl (rv_tmp rfl) (.refl _) en

theorem g_Valid_ok {b : List (List Int)} {D0 : List Int} {L0 : List (List Int)} {k m S K : Nat} (h0 : 0 < b.length) (hb : b.length ≤ 12) (hm : ∀ i, i < b.length → (b.getD i []).length = m) (hk : k ≤ 1048576) (hm12 : m ≤ 12) (hR : ShR b true 0) (h : bld b b.length = some (D0, L0)) (hS : ∀ i j, i < b.length → j ≤ i → zl (dotU (b.getD i []) (b.getD j []) (b.getD i []).length) ≤ S) (hK1 : bd S 12 ≤ K) (hK2 : K ≤ 137438953472) (hK3 : 2 ≤ K) : Fn Try.prog 19 [T.l (cL (cZi k)) b] [] [] [] (T.c (.int .i64 0)) := by
  refine fn_of Try.func19 rfl (by show 1 ≤ 11; decide) fun cx hcx => ?_
  refine tri_sub (sl 0 rfl sn) en ?_
  refine tri_seq ?_
  refine tri_reg mixed hcx ?_ _ _
  refine asg rfl ?_
  refine ⟨by kernel_rfl, ?_⟩
  refine nx (sl 0 rfl sn) en ?_
  refine tri_seq ?_
  refine tri_reg mixed hcx ?_ _ _
  refine mv rfl ?_
  refine ca rfl (h := g_of_ok_t h0 hb hm hk hm12 hR h hS hK1 hK2 hK3) (hn := ?_)
  refine mv rfl ?_
  refine ex rfl rfl ?_
  refine ex rfl rfl ?_
  refine nw 115 zeG ?_
  refine st rfl rfl rfl tyG rfl ?_
  refine asg rfl ?_
  refine ⟨by kernel_rfl, ?_⟩
  refine nx (sl 4 rfl sn) (el 115 rfl en) ?_
  refine tri_seq ?_
  refine tri_reg mixed hcx ?_ _ _
  refine mv rfl ?_
  refine asg rfl ?_
  refine ⟨by kernel_rfl, ?_⟩
  refine nx (sl 2 rfl sn) (el 115 rfl en) ?_
  refine tri_ret ?_
  repeat (first | refine pn_thenr ?_ | refine pn_blkr ?_)
  exact ret1 hcx rfl (rv_tmp rfl) (.refl _) en

theorem g_Coords_err {b : List (List Int)} {ts : List (Int × Int)} {k : Nat} (hk : k ≤ 1048576) (htl : ts.length ≤ 1048576) {r : Int} (hv : Fn Try.prog 19 [T.l (cL (cZi k)) b] [] [] [] (T.c (.int .i64 r))) (hr : r ≠ 0) : Fn Try.prog 45 [T.l (cL (cZi k)) b, T.l (cQi k) ts] [] [] [] (T.tup [T.c (.slice none 0 0), ZQ, T.c (.int .i64 r)]) := by
  refine fn_of Try.func45 rfl (by show 2 ≤ 46; decide) fun cx hcx => ?_
  refine tri_sub (sl 0 rfl (sl 1 rfl sn)) en ?_
  refine tri_seq ?_
  refine tri_reg mixed hcx ?_ _ _
  refine asg rfl ?_
  refine nw 11 zeQ ?_
  refine asg rfl ?_
  refine ⟨by kernel_rfl, ?_⟩
  refine nx (sl 0 rfl (sl 1 rfl (sl 5 rfl sn))) (el 11 rfl en) ?_
  refine tri_seq ?_
  refine tri_seq ?_
  refine tri_reg mixed hcx ?_ _ _
  refine mv rfl ?_
  refine ca rfl (h := hv) (hn := ?_)
  refine asg rfl ?_
  refine ⟨by kernel_rfl, ?_⟩
  refine nx (sl 0 rfl (sl 1 rfl (sl 5 rfl (sl 7 rfl sn)))) (el 11 rfl en) ?_
  refine tri_seq ?_
  refine tri_reg mixed hcx ?_ _ _
  refine mv rfl ?_
  refine cne rfl rfl (decide_eq_true hr) ?_
  refine ⟨by kernel_rfl, ?_⟩
  refine nx (sl 0 rfl (sl 1 rfl (sl 5 rfl (sl 7 rfl (sl 15 rfl sn))))) (el 11 rfl en) ?_
  refine tri_true rfl rfl ?_
  refine tri_seq ?_
  refine tri_reg mixed hcx ?_ _ _
  refine bu stQ rfl ?_
  refine mv rfl ?_
  refine asg rfl ?_
  refine st rfl rfl rfl tyQ rfl ?_
  refine asg rfl ?_
  refine ⟨by kernel_rfl, ?_⟩
  refine nx (sl 4 rfl (sl 5 rfl (sl 6 rfl sn))) (el 11 rfl en) ?_
  refine tri_ret ?_
  repeat (first | refine pn_thenr ?_ | refine pn_blkr ?_)
  exact ret3 hcx rfl (rv_tmp rfl) (rv_cell (c' := cx) (n := 0) rfl rfl tyQ rfl) (rv_tmp rfl) (.refl _) en

theorem g_Coords_shape {b : List (List Int)} {ts : List (Int × Int)} {k : Nat} (hk : k ≤ 1048576) (htl : ts.length ≤ 1048576) (hv : Fn Try.prog 19 [T.l (cL (cZi k)) b] [] [] [] (T.c (.int .i64 0))) (h0 : 0 < b.length) {m : Nat} (hm0 : (b.getD 0 []).length = m) (hmm : m ≤ 12) (hts : ts.length ≠ m) : Fn Try.prog 45 [T.l (cL (cZi k)) b, T.l (cQi k) ts] [] [] [] (T.tup [T.c (.slice none 0 0), ZQ, T.c (.int .i64 8)]) := by
  refine fn_of Try.func45 rfl (by show 2 ≤ 46; decide) fun cx hcx => ?_
  refine tri_sub (sl 0 rfl (sl 1 rfl sn)) en ?_
  have hmz : (b.getD 0 (cL (cZi k)).dflt).length = m := hm0
  refine tri_seq ?_
  refine tri_reg mixed hcx ?_ _ _
  refine asg rfl ?_
  refine nw 11 zeQ ?_
  refine asg rfl ?_
  refine ⟨by kernel_rfl, ?_⟩
  refine nx (sl 0 rfl (sl 1 rfl (sl 5 rfl sn))) (el 11 rfl en) ?_
  refine tri_seq ?_
  refine tri_seq ?_
  refine tri_reg mixed hcx ?_ _ _
  refine mv rfl ?_
  refine ca rfl (h := hv) (hn := ?_)
  refine asg rfl ?_
  refine ⟨by kernel_rfl, ?_⟩
  refine nx (sl 0 rfl (sl 1 rfl (sl 5 rfl (sl 7 rfl sn)))) (el 11 rfl en) ?_
  refine tri_seq ?_
  refine tri_reg mixed hcx ?_ _ _
  refine mv rfl ?_
  refine cne rfl rfl (decide_eq_false (by omega)) ?_
  refine ⟨by kernel_rfl, ?_⟩
  refine nx (sl 0 rfl (sl 1 rfl (sl 5 rfl (sl 7 rfl (sl 15 rfl sn))))) (el 11 rfl en) ?_
  refine tri_false rfl rfl ?_
  refine tri_skip ?_
  refine nx (sl 0 rfl (sl 1 rfl (sl 5 rfl sn))) (el 11 rfl en) ?_
  refine tri_seq ?_
  refine tri_seq ?_
  refine tri_reg mixed hcx ?_ _ _
  refine mv rfl ?_
  refine ln slQs rfl ?_
  refine mv rfl ?_
  refine ix rfl rfl slZss ⟨(rfl : _ = ((0 : Nat) : Int)), by omega⟩ ?_
  refine lf rfl tyZs ?_
  refine ln slZs rfl ?_
  refine cne rfl rfl (decide_eq_true (by omega)) ?_
  refine ⟨by kernel_rfl, ?_⟩
  refine nx (sl 0 rfl (sl 1 rfl (sl 5 rfl (sl 24 rfl sn)))) (el 11 rfl en) ?_
  refine tri_true rfl rfl ?_
  refine tri_seq ?_
  refine tri_reg mixed hcx ?_ _ _
  refine bu stQ rfl ?_
  refine asg rfl ?_
  refine st rfl rfl rfl tyQ rfl ?_
  refine asg rfl ?_
  refine ⟨by kernel_rfl, ?_⟩
  refine nx (sl 4 rfl (sl 5 rfl (sl 6 rfl sn))) (el 11 rfl en) ?_
  refine tri_ret ?_
  repeat (first | refine pn_thenr ?_ | refine pn_blkr ?_)
  exact ret3 hcx rfl (rv_tmp rfl) (rv_cell (c' := cx) (n := 0) rfl rfl tyQ rfl) (rv_tmp rfl) (.refl _) en

theorem g_Coords_rat {b : List (List Int)} {ts : List (Int × Int)} {k : Nat} (hk : k ≤ 1048576) (htl : ts.length ≤ 1048576) (hv : Fn Try.prog 19 [T.l (cL (cZi k)) b] [] [] [] (T.c (.int .i64 0))) (h0 : 0 < b.length) {m : Nat} (hm0 : (b.getD 0 []).length = m) (hmm : m ≤ 12) (hts : ts.length = m) {w : Nat} (hw : w < ts.length) (hw1 : ¬ 0 < (ts.getD w (0, 0)).2) (hw2 : ∀ i, i < w → 0 < (ts.getD i (0, 0)).2) : Fn Try.prog 45 [T.l (cL (cZi k)) b, T.l (cQi k) ts] [] [] [] (T.tup [T.c (.slice none 0 0), ZQ, T.c (.int .i64 30)]) := by
  refine fn_of Try.func45 rfl (by show 2 ≤ 46; decide) fun cx hcx => ?_
  refine tri_sub (sl 0 rfl (sl 1 rfl sn)) en ?_
  have hmz : (b.getD 0 (cL (cZi k)).dflt).length = m := hm0
  refine tri_seq ?_
  refine tri_reg mixed hcx ?_ _ _
  refine asg rfl ?_
  refine nw 11 zeQ ?_
  refine asg rfl ?_
  refine ⟨by kernel_rfl, ?_⟩
  refine nx (sl 0 rfl (sl 1 rfl (sl 5 rfl sn))) (el 11 rfl en) ?_
  refine tri_seq ?_
  refine tri_seq ?_
  refine tri_reg mixed hcx ?_ _ _
  refine mv rfl ?_
  refine ca rfl (h := hv) (hn := ?_)
  refine asg rfl ?_
  refine ⟨by kernel_rfl, ?_⟩
  refine nx (sl 0 rfl (sl 1 rfl (sl 5 rfl (sl 7 rfl sn)))) (el 11 rfl en) ?_
  refine tri_seq ?_
  refine tri_reg mixed hcx ?_ _ _
  refine mv rfl ?_
  refine cne rfl rfl (decide_eq_false (by omega)) ?_
  refine ⟨by kernel_rfl, ?_⟩
  refine nx (sl 0 rfl (sl 1 rfl (sl 5 rfl (sl 7 rfl (sl 15 rfl sn))))) (el 11 rfl en) ?_
  refine tri_false rfl rfl ?_
  refine tri_skip ?_
  refine nx (sl 0 rfl (sl 1 rfl (sl 5 rfl sn))) (el 11 rfl en) ?_
  refine tri_seq ?_
  refine tri_seq ?_
  refine tri_reg mixed hcx ?_ _ _
  refine mv rfl ?_
  refine ln slQs rfl ?_
  refine mv rfl ?_
  refine ix rfl rfl slZss ⟨(rfl : _ = ((0 : Nat) : Int)), by omega⟩ ?_
  refine lf rfl tyZs ?_
  refine ln slZs rfl ?_
  refine cne rfl rfl (decide_eq_false (by omega)) ?_
  refine ⟨by kernel_rfl, ?_⟩
  refine nx (sl 0 rfl (sl 1 rfl (sl 5 rfl (sl 24 rfl sn)))) (el 11 rfl en) ?_
  refine tri_false rfl rfl ?_
  refine tri_skip ?_
  refine nx (sl 0 rfl (sl 1 rfl (sl 5 rfl sn))) (el 11 rfl en) ?_
  refine tri_seq ?_
  refine tri_seq ?_
  refine tri_reg mixed hcx ?_ _ _
  refine mv rfl ?_
  refine ln slQs rfl ?_
  refine mv rfl ?_
  refine ⟨by kernel_rfl, ?_⟩
  refine nx (sl 0 rfl (sl 1 rfl (sl 5 rfl (sl 26 rfl (sl 27 rfl (sl 28 rfl sn)))))) (el 11 rfl en) ?_
  refine tri_block ?_
  refine tri_loop (ι := Nat) (fun i => [(0, T.l (cL (cZi k)) b), (1, T.l (cQi k) ts), (5, T.p 11 0), (26, T.l (cQi k) ts), (27, T.c (.int .i64 (ts.length : Int))), (28, T.c (.int .i64 (i : Int)))]) (fun i => [(11, some (Ent.box 43 [T.c (.bool false), T.c (.slice none 0 0), T.c (.bool false), T.c (.slice none 0 0)]))]) (fun i => ts.length - i) (fun i => (i ≤ w)) 0 (Nat.zero_le _) (sl 0 rfl (sl 1 rfl (sl 5 rfl (sl 26 rfl (sl 27 rfl (sl 28 rfl sn)))))) (el 11 rfl en) ?_
  rintro i hi
  refine tri_sub (sl 0 rfl (sl 1 rfl (sl 5 rfl (sl 26 rfl (sl 27 rfl (sl 28 rfl sn)))))) (el 11 rfl en) ?_
  refine tri_seq ?_
  refine tri_reg mixed hcx ?_ _ _
  refine clt rfl rfl rfl ?_
  refine ⟨by kernel_rfl, ?_⟩
  refine nx (sl 0 rfl (sl 1 rfl (sl 5 rfl (sl 26 rfl (sl 27 rfl (sl 28 rfl (sl 29 rfl sn))))))) (el 11 rfl en) ?_
  refine tri_seq ?_
  refine tri_if rfl (fun hc => ?_) (fun hc => ?_)
  · refine tri_skip ?_
    refine nx (sl 0 rfl (sl 1 rfl (sl 5 rfl (sl 26 rfl (sl 27 rfl (sl 28 rfl sn)))))) (el 11 rfl en) ?_
    refine tri_seq ?_
    refine tri_block ?_
    refine tri_seq ?_
    refine tri_reg mixed hcx ?_ _ _
    refine ix rfl rfl slQs ⟨rfl, by omega⟩ ?_
    refine lf rfl tyQ ?_
    refine nw 812 zeQ ?_
    refine sts (zz := [T.Zi (ts.getD i (cQi k).dflt).1 k, T.Zi (ts.getD i (cQi k).dflt).2 k]) rfl rfl rfl tyQ rfl ?_
    refine ⟨by kernel_rfl, ?_⟩
    refine nx (sl 0 rfl (sl 1 rfl (sl 5 rfl (sl 9 rfl (sl 26 rfl (sl 27 rfl (sl 28 rfl sn))))))) (el 11 rfl (el 812 rfl en)) ?_
    refine tri_seq ?_
    rcases Nat.lt_or_eq_of_le hi with h9 | h9
    · have hsg : sg (ts.getD i (cQi k).dflt).2 = 1 := sg_pos (hw2 i h9)
      refine tri_reg mixed hcx ?_ _ _
      refine fa rfl fDen 2 ?_
      refine ld rfl rfl tyZ rfl ?_
      refine ca rfl (h := zi_Sign (by omega)) (hn := ?_)
      refine cle rfl rfl (decide_eq_false (by omega)) ?_
      refine ⟨by kernel_rfl, ?_⟩
      refine nx (sl 0 rfl (sl 1 rfl (sl 5 rfl (sl 26 rfl (sl 27 rfl (sl 28 rfl (sl 35 rfl sn))))))) (el 11 rfl (el 812 rfl en)) ?_
      refine tri_false rfl rfl ?_
      refine tri_skip ?_
      refine pn_blk ?_
      refine nx (sl 0 rfl (sl 1 rfl (sl 5 rfl (sl 26 rfl (sl 27 rfl (sl 28 rfl sn)))))) (el 11 rfl (el 812 rfl en)) ?_
      refine tri_reg mixed hcx ?_ _ _
      refine ad (((i + 1 : Nat) : Int)) rfl rfl rfl (by omega) ?_
      refine mv rfl ?_
      refine ⟨by kernel_rfl, ?_⟩
      exact pn_back (i + 1) (by first | omega | (dsimp only; omega)) (by omega) (sl 0 rfl (sl 1 rfl (sl 5 rfl (sl 26 rfl (sl 27 rfl (sl 28 rfl sn)))))) (el 11 rfl en)
    · subst h9
      have hsg : sg (ts.getD i (cQi k).dflt).2 ≤ 0 := sg_le.2 (Int.not_lt.1 hw1)
      refine tri_reg mixed hcx ?_ _ _
      refine fa rfl fDen 2 ?_
      refine ld rfl rfl tyZ rfl ?_
      refine ca rfl (h := zi_Sign (by omega)) (hn := ?_)
      refine cle rfl rfl (decide_eq_true (by omega)) ?_
      refine ⟨by kernel_rfl, ?_⟩
      refine nx (sl 0 rfl (sl 1 rfl (sl 5 rfl (sl 26 rfl (sl 27 rfl (sl 28 rfl (sl 35 rfl sn))))))) (el 11 rfl (el 812 rfl en)) ?_
      refine tri_true rfl rfl ?_
      refine tri_seq ?_
      refine tri_reg mixed hcx ?_ _ _
      refine bu stQ rfl ?_
      refine asg rfl ?_
      refine st rfl rfl rfl tyQ rfl ?_
      refine asg rfl ?_
      refine ⟨by kernel_rfl, ?_⟩
      refine nx (sl 4 rfl (sl 5 rfl (sl 6 rfl sn))) (el 11 rfl (el 812 rfl en)) ?_
      refine tri_ret ?_
      repeat (first | refine pn_thenr ?_ | refine pn_blkr ?_)
      exact ret3 hcx rfl (rv_tmp rfl) (rv_cell (c' := cx) (n := 0) rfl rfl tyQ rfl) (rv_tmp rfl) (.refl _) en
  · refine tri_exit ?_
    repeat (first | refine pn_then ?_ | refine pn_oth (by decide) ?_)
    refine pn_ex ?_
    exfalso
    omega

theorem g_Coords_ok {b : List (List Int)} {ts : List (Int × Int)} {k : Nat} (hk : k ≤ 1048576) (htl : ts.length ≤ 1048576) (hv : Fn Try.prog 19 [T.l (cL (cZi k)) b] [] [] [] (T.c (.int .i64 0))) (h0 : 0 < b.length) {m : Nat} (hm0 : (b.getD 0 []).length = m) (hmm : m ≤ 12) (hts : ts.length = m) (htp : ∀ i, i < ts.length → 0 < (ts.getD i (0, 0)).2) {c : List (Int × Int)} {d : Rat} (hl : Fn Try.prog 111 [T.l (cL (cZi k)) b, T.l (cQi k) ts] [] [] [] (T.tup [T.l (cQp SN) c, T.Q d SN])) : Fn Try.prog 45 [T.l (cL (cZi k)) b, T.l (cQi k) ts] [] [] [] (T.tup [T.l (cQp SN) c, T.Q d SN, T.c (.int .i64 0)]) := by
  refine fn_of Try.func45 rfl (by show 2 ≤ 46; decide) fun cx hcx => ?_
  refine tri_sub (sl 0 rfl (sl 1 rfl sn)) en ?_
  have hmz : (b.getD 0 (cL (cZi k)).dflt).length = m := hm0
  refine tri_seq ?_
  refine tri_reg mixed hcx ?_ _ _
  refine asg rfl ?_
  refine nw 11 zeQ ?_
  refine asg rfl ?_
  refine ⟨by kernel_rfl, ?_⟩
  refine nx (sl 0 rfl (sl 1 rfl (sl 5 rfl sn))) (el 11 rfl en) ?_
  refine tri_seq ?_
  refine tri_seq ?_
  refine tri_reg mixed hcx ?_ _ _
  refine mv rfl ?_
  refine ca rfl (h := hv) (hn := ?_)
  refine asg rfl ?_
  refine ⟨by kernel_rfl, ?_⟩
  refine nx (sl 0 rfl (sl 1 rfl (sl 5 rfl (sl 7 rfl sn)))) (el 11 rfl en) ?_
  refine tri_seq ?_
  refine tri_reg mixed hcx ?_ _ _
  refine mv rfl ?_
  refine cne rfl rfl (decide_eq_false (by omega)) ?_
  refine ⟨by kernel_rfl, ?_⟩
  refine nx (sl 0 rfl (sl 1 rfl (sl 5 rfl (sl 7 rfl (sl 15 rfl sn))))) (el 11 rfl en) ?_
  refine tri_false rfl rfl ?_
  refine tri_skip ?_
  refine nx (sl 0 rfl (sl 1 rfl (sl 5 rfl sn))) (el 11 rfl en) ?_
  refine tri_seq ?_
  refine tri_seq ?_
  refine tri_reg mixed hcx ?_ _ _
  refine mv rfl ?_
  refine ln slQs rfl ?_
  refine mv rfl ?_
  refine ix rfl rfl slZss ⟨(rfl : _ = ((0 : Nat) : Int)), by omega⟩ ?_
  refine lf rfl tyZs ?_
  refine ln slZs rfl ?_
  refine cne rfl rfl (decide_eq_false (by omega)) ?_
  refine ⟨by kernel_rfl, ?_⟩
  refine nx (sl 0 rfl (sl 1 rfl (sl 5 rfl (sl 24 rfl sn)))) (el 11 rfl en) ?_
  refine tri_false rfl rfl ?_
  refine tri_skip ?_
  refine nx (sl 0 rfl (sl 1 rfl (sl 5 rfl sn))) (el 11 rfl en) ?_
  refine tri_seq ?_
  refine tri_seq ?_
  refine tri_reg mixed hcx ?_ _ _
  refine mv rfl ?_
  refine ln slQs rfl ?_
  refine mv rfl ?_
  refine ⟨by kernel_rfl, ?_⟩
  refine nx (sl 0 rfl (sl 1 rfl (sl 5 rfl (sl 26 rfl (sl 27 rfl (sl 28 rfl sn)))))) (el 11 rfl en) ?_
  refine tri_block ?_
  refine tri_loop (ι := Nat) (fun i => [(0, T.l (cL (cZi k)) b), (1, T.l (cQi k) ts), (5, T.p 11 0), (26, T.l (cQi k) ts), (27, T.c (.int .i64 (ts.length : Int))), (28, T.c (.int .i64 (i : Int)))]) (fun i => [(11, some (Ent.box 43 [T.c (.bool false), T.c (.slice none 0 0), T.c (.bool false), T.c (.slice none 0 0)]))]) (fun i => ts.length - i) (fun i => (i ≤ ts.length)) 0 (Nat.zero_le _) (sl 0 rfl (sl 1 rfl (sl 5 rfl (sl 26 rfl (sl 27 rfl (sl 28 rfl sn)))))) (el 11 rfl en) ?_
  rintro i hi
  refine tri_sub (sl 0 rfl (sl 1 rfl (sl 5 rfl (sl 26 rfl (sl 27 rfl (sl 28 rfl sn)))))) (el 11 rfl en) ?_
  refine tri_seq ?_
  refine tri_reg mixed hcx ?_ _ _
  refine clt rfl rfl rfl ?_
  refine ⟨by kernel_rfl, ?_⟩
  refine nx (sl 0 rfl (sl 1 rfl (sl 5 rfl (sl 26 rfl (sl 27 rfl (sl 28 rfl (sl 29 rfl sn))))))) (el 11 rfl en) ?_
  refine tri_seq ?_
  refine tri_if rfl (fun hc => ?_) (fun hc => ?_)
  · have hsg : sg (ts.getD i (cQi k).dflt).2 = 1 := sg_pos (htp i (by omega))
    refine tri_skip ?_
    refine nx (sl 0 rfl (sl 1 rfl (sl 5 rfl (sl 26 rfl (sl 27 rfl (sl 28 rfl sn)))))) (el 11 rfl en) ?_
    refine tri_seq ?_
    refine tri_block ?_
    refine tri_seq ?_
    refine tri_reg mixed hcx ?_ _ _
    refine ix rfl rfl slQs ⟨rfl, by omega⟩ ?_
    refine lf rfl tyQ ?_
    refine nw 812 zeQ ?_
    refine sts (zz := [T.Zi (ts.getD i (cQi k).dflt).1 k, T.Zi (ts.getD i (cQi k).dflt).2 k]) rfl rfl rfl tyQ rfl ?_
    refine ⟨by kernel_rfl, ?_⟩
    refine nx (sl 0 rfl (sl 1 rfl (sl 5 rfl (sl 9 rfl (sl 26 rfl (sl 27 rfl (sl 28 rfl sn))))))) (el 11 rfl (el 812 rfl en)) ?_
    refine tri_seq ?_
    refine tri_reg mixed hcx ?_ _ _
    refine fa rfl fDen 2 ?_
    refine ld rfl rfl tyZ rfl ?_
    refine ca rfl (h := zi_Sign (by omega)) (hn := ?_)
    refine cle rfl rfl (decide_eq_false (by omega)) ?_
    refine ⟨by kernel_rfl, ?_⟩
    refine nx (sl 0 rfl (sl 1 rfl (sl 5 rfl (sl 26 rfl (sl 27 rfl (sl 28 rfl (sl 35 rfl sn))))))) (el 11 rfl (el 812 rfl en)) ?_
    refine tri_false rfl rfl ?_
    refine tri_skip ?_
    refine pn_blk ?_
    refine nx (sl 0 rfl (sl 1 rfl (sl 5 rfl (sl 26 rfl (sl 27 rfl (sl 28 rfl sn)))))) (el 11 rfl (el 812 rfl en)) ?_
    refine tri_reg mixed hcx ?_ _ _
    refine ad (((i + 1 : Nat) : Int)) rfl rfl rfl (by omega) ?_
    refine mv rfl ?_
    refine ⟨by kernel_rfl, ?_⟩
    exact pn_back (i + 1) (by first | omega | (dsimp only; omega)) (by omega) (sl 0 rfl (sl 1 rfl (sl 5 rfl (sl 26 rfl (sl 27 rfl (sl 28 rfl sn)))))) (el 11 rfl en)
  · refine tri_exit ?_
    repeat (first | refine pn_then ?_ | refine pn_oth (by decide) ?_)
    refine pn_ex ?_
    refine nx (sl 0 rfl (sl 1 rfl (sl 5 rfl sn))) (el 11 rfl en) ?_
    refine tri_seq ?_
    refine tri_reg mixed hcx ?_ _ _
    refine mv rfl ?_
    refine mv rfl ?_
    refine ca rfl (h := hl) (hn := ?_)
    refine mv rfl ?_
    refine ex rfl rfl ?_
    refine ex rfl rfl ?_
    refine nw 1216 zeQ ?_
    refine asg rfl ?_
    refine st rfl rfl rfl tyQ rfl ?_
    refine ⟨by kernel_rfl, ?_⟩
    refine nx (sl 5 rfl (sl 10 rfl (sl 11 rfl sn))) (el 11 rfl (el 1216 rfl en)) ?_
    refine tri_seq ?_
    refine tri_reg mixed hcx ?_ _ _
    refine mv rfl ?_
    refine ld rfl rfl tyQ rfl ?_
    refine asg rfl ?_
    refine st rfl rfl rfl tyQ rfl ?_
    refine asg rfl ?_
    refine ⟨by kernel_rfl, ?_⟩
    refine nx (sl 4 rfl (sl 5 rfl (sl 6 rfl sn))) (el 11 rfl (el 1216 rfl en)) ?_
    refine tri_ret ?_
    repeat (first | refine pn_thenr ?_ | refine pn_blkr ?_)
    exact ret3 hcx rfl (rv_tmp rfl) (rv_cell (c' := cx) (n := 0) rfl rfl tyQ rfl) (rv_tmp rfl) (.refl _) en

theorem near_no {b : List (List Int)} {ts : List (Int × Int)} {k : Nat} (hk : k ≤ 1048576) (htl : ts.length ≤ 1048576) {r : Int} (hbl : b.length ≤ 1048576) (hc : Fn Try.prog 45 [T.l (cL (cZi k)) b, T.l (cQi k) ts] [] [] [] (T.tup [T.c (.slice none 0 0), ZQ, T.c (.int .i64 r)])) (hr : r ≠ 0) : Fn Try.prog 9 [T.l (cL (cZi k)) b, T.l (cQi k) ts] [] [] [] (T.c (.bool true)) := by
  refine fn_of Try.func9 rfl (by show 2 ≤ 132; decide) fun cx hcx => ?_
  refine tri_sub (sl 0 rfl (sl 1 rfl sn)) en ?_
  refine tri_seq ?_
  refine tri_reg mixed hcx ?_ _ _
  refine asg rfl ?_
  refine ⟨by kernel_rfl, ?_⟩
  refine nx (sl 0 rfl (sl 1 rfl sn)) en ?_
  refine tri_seq ?_
  refine tri_seq ?_
  refine tri_reg mixed hcx ?_ _ _
  refine ca rfl (h := law_awake) (hn := ?_)
  refine nt rfl _ rfl ?_
  refine ⟨by kernel_rfl, ?_⟩
  refine nx (sl 0 rfl (sl 1 rfl (sl 18 rfl sn))) en ?_
  refine tri_false rfl rfl ?_
  refine tri_skip ?_
  refine nx (sl 0 rfl (sl 1 rfl sn)) en ?_
  refine tri_seq ?_
  refine tri_reg mixed hcx ?_ _ _
  refine mv rfl ?_
  refine mv rfl ?_
  refine ca rfl (h := hc) (hn := ?_)
  refine mv rfl ?_
  refine ex rfl rfl ?_
  refine ex rfl rfl ?_
  refine ex rfl rfl ?_
  refine nw 317 zeQ ?_
  refine asg rfl ?_
  refine sts rfl rfl rfl tyQ rfl ?_
  refine asg rfl ?_
  refine ⟨by kernel_rfl, ?_⟩
  refine nx (sl 0 rfl (sl 1 rfl (sl 5 rfl (sl 6 rfl (sl 7 rfl sn))))) (el 317 rfl en) ?_
  refine tri_seq ?_
  refine tri_seq ?_
  refine tri_reg mixed hcx ?_ _ _
  refine mv rfl ?_
  refine cne rfl rfl (decide_eq_true hr) ?_
  refine mv rfl ?_
  refine j_off rfl rfl rfl rfl ?_
  refine j_off rfl rfl rfl rfl ?_
  refine j_off rfl rfl rfl rfl ?_
  refine j_off rfl rfl rfl rfl ?_
  refine j_off rfl rfl rfl rfl ?_
  refine pk rfl rfl ?_
  refine ⟨by kernel_rfl, ?_⟩
  refine nx (sl 0 rfl (sl 1 rfl (sl 5 rfl (sl 6 rfl (sl 7 rfl (sl 34 rfl sn)))))) (el 317 rfl en) ?_
  refine tri_true rfl rfl ?_
  refine tri_seq ?_
  refine tri_reg mixed hcx ?_ _ _
  refine mv rfl ?_
  refine cne rfl rfl (decide_eq_true hr) ?_
  refine mv rfl ?_
  refine mv rfl ?_ (hg := gd1)
  refine ln slQs rfl ?_ (hg := gd1)
  refine ceq rfl rfl (decide_eq_true (by omega)) ?_ (hg := gd1)
  refine pk rfl rfl ?_
  refine asg rfl ?_
  refine ⟨by kernel_rfl, ?_⟩
  refine nx (sl 4 rfl sn) (el 317 rfl en) ?_
  refine tri_ret ?_
  repeat (first | refine pn_thenr ?_ | refine pn_blkr ?_)
  exact ret1 hcx rfl (rv_tmp rfl) (.refl _) en

/-- What is left of a point, number by number. -/
def lf_ (b : List (List Int)) (c : List Rat) (ts : List (Int × Int)) (n : Nat) : List Rat := (List.range n).map fun k => lq b c (tq ts k) k b.length
theorem lf_succ {b : List (List Int)} {c : List Rat} {ts : List (Int × Int)} {n : Nat} : lf_ b c ts n ++ [lq b c (tq ts n) n b.length] = lf_ b c ts (n + 1) := by simp [lf_, List.range_succ]
theorem lf_len {b : List (List Int)} {c : List Rat} {ts : List (Int × Int)} {n : Nat} : (lf_ b c ts n).length = n := by simp [lf_]
theorem lf_at {b : List (List Int)} {c : List Rat} {ts : List (Int × Int)} {n k : Nat} (h : k < n) : (lf_ b c ts n).getD k 0 = lq b c (tq ts k) k b.length := rng_at h
/-- A list of fractions, however told. -/
def cV (k : Nat) : Cod Rat := ⟨fun q => T.V q k, 4, 0, fun _ => rfl, fun _ => rfl, by decide⟩
theorem cv_v {p q : Rat} {k : Nat} (e : p = q) : ((cV k).X p).le (T.V q k) := v_mono e (Nat.le_refl _)
theorem v_cv {p q : Rat} {k : Nat} (e : p = q) : (T.V p k).le ((cV k).X q) := v_mono e (Nat.le_refl _)

theorem near_ok {b : List (List Int)} {ts : List (Int × Int)} {k m : Nat} {c : List Rat} (hk : k ≤ 1048576) (hbl : b.length ≤ 12) (hm : ∀ i, i < b.length → (b.getD i []).length = m) (hts : ts.length = m) (hmm : m ≤ 12) (htp : ∀ i, i < ts.length → 0 < (ts.getD i (0, 0)).2) (hcl : c.length = b.length)
  (hc : Fn Try.prog 45 [T.l (cL (cZi k)) b, T.l (cQi k) ts] [] [] [] (T.tup [T.l (cQp SN) (c.map nd), T.Q (hq b c ts b.length m) SN, T.c (.int .i64 0)]))
  (hl : ∀ k, k < m → ∀ i, i ≤ b.length → QB (lq b c (tq ts k) k i) SN) (hh : ∀ k, k ≤ m → QB (hq b c ts b.length k) SN) (hnn : ∀ i, i < b.length → ∀ k, k ≤ m → QB (nq b c ts b.length i k) SN) (hz : ∀ i, i < b.length → nq b c ts b.length i m = 0) : Fn Try.prog 9 [T.l (cL (cZi k)) b, T.l (cQi k) ts] [] [] [] (T.c (.bool true)) := by
  refine fn_of Try.func9 rfl (by show 2 ≤ 132; decide) fun cx hcx => ?_
  refine tri_sub (sl 0 rfl (sl 1 rfl sn)) en ?_
  have hSN : SN = 2147483648 := rfl
  have hcl2 : (c.map nd).length = b.length := by rw [List.length_map, hcl]
  have hq0 : QB (0 : Rat) SN := hh 0 (Nat.zero_le _)
  refine tri_seq ?_
  refine tri_reg mixed hcx ?_ _ _
  refine asg rfl ?_
  refine ⟨by kernel_rfl, ?_⟩
  refine nx (sl 0 rfl (sl 1 rfl sn)) en ?_
  refine tri_seq ?_
  refine tri_seq ?_
  refine tri_reg mixed hcx ?_ _ _
  refine ca rfl (h := law_awake) (hn := ?_)
  refine nt rfl _ rfl ?_
  refine ⟨by kernel_rfl, ?_⟩
  refine nx (sl 0 rfl (sl 1 rfl (sl 18 rfl sn))) en ?_
  refine tri_false rfl rfl ?_
  refine tri_skip ?_
  refine nx (sl 0 rfl (sl 1 rfl sn)) en ?_
  refine tri_seq ?_
  refine tri_reg mixed hcx ?_ _ _
  refine mv rfl ?_
  refine mv rfl ?_
  refine ca rfl (h := hc) (hn := ?_)
  refine mv rfl ?_
  refine ex rfl rfl ?_
  refine ex rfl rfl ?_
  refine ex rfl rfl ?_
  refine nw 317 zeQ ?_
  refine asg rfl ?_
  refine st rfl rfl rfl tyQ rfl ?_
  refine asg rfl ?_
  refine ⟨by kernel_rfl, ?_⟩
  refine nx (sl 0 rfl (sl 1 rfl (sl 5 rfl (sl 6 rfl (sl 7 rfl sn))))) (el 317 rfl en) ?_
  refine tri_seq ?_
  refine tri_seq ?_
  refine tri_reg mixed hcx ?_ _ _
  refine mv rfl ?_
  refine cne rfl rfl (decide_eq_false (by omega)) ?_
  refine mv rfl ?_
  refine mv rfl ?_ (hg := gd1)
  refine ln slQs rfl ?_ (hg := gd1)
  refine mv rfl ?_ (hg := gd1)
  refine ln slZss rfl ?_ (hg := gd1)
  refine cne rfl rfl (decide_eq_false (by omega)) ?_ (hg := gd1)
  refine pk rfl rfl ?_
  refine ⟨by kernel_rfl, ?_⟩
  refine nx (sl 0 rfl (sl 1 rfl (sl 5 rfl (sl 6 rfl (sl 7 rfl (sl 34 rfl sn)))))) (el 317 rfl en) ?_
  refine tri_false rfl rfl ?_
  refine tri_skip ?_
  refine nx (sl 0 rfl (sl 1 rfl (sl 5 rfl (sl 6 rfl sn)))) (el 317 rfl en) ?_
  refine tri_seq ?_
  refine tri_reg mixed hcx ?_ _ _
  refine asg rfl ?_
  refine ⟨by kernel_rfl, ?_⟩
  refine nx (sl 0 rfl (sl 1 rfl (sl 5 rfl (sl 6 rfl (sl 8 rfl sn))))) (el 317 rfl en) ?_
  refine tri_seq ?_
  refine tri_seq ?_
  refine tri_nil 8 9 43 (cV SN) rfl (by rw [hcx]; kernel_rfl) ?_
  refine tri_reg mixed hcx ?_ _ _
  refine asg rfl ?_
  refine ⟨by kernel_rfl, ?_⟩
  refine nx (sl 0 rfl (sl 1 rfl (sl 5 rfl (sl 6 rfl (sl 8 rfl (sl 9 rfl sn)))))) (el 317 rfl (el 9 rfl en)) ?_
  refine tri_block ?_
  refine tri_loop (ι := Nat) (fun i => [(0, T.l (cL (cZi k)) b), (1, T.l (cQi k) ts), (5, T.l (cQp SN) (c.map nd)), (6, T.p 317 0), (8, T.o 9), (9, T.c (.int .i64 (i : Int)))]) (fun i => [(317, some (Ent.box 43 [T.Q (hq b c ts b.length m) SN])), (9, some (Ent.row (cV SN) 43 (lf_ b c ts i)))]) (fun i => ts.length - i) (fun i => (i ≤ ts.length)) 0 (Nat.zero_le _) (sl 0 rfl (sl 1 rfl (sl 5 rfl (sl 6 rfl (sl 8 rfl (sl 9 rfl sn)))))) (el 317 rfl (el 9 rfl en)) ?_
  rintro i hi
  refine tri_sub (sl 0 rfl (sl 1 rfl (sl 5 rfl (sl 6 rfl (sl 8 rfl (sl 9 rfl sn)))))) (el 317 rfl (el 9 rfl en)) ?_
  have hll := @lf_len b c ts i
  refine tri_seq ?_
  refine tri_seq ?_
  refine tri_reg mixed hcx ?_ _ _
  refine mv rfl ?_
  refine mv rfl ?_
  refine ln slQs rfl ?_
  refine clt rfl rfl rfl ?_
  refine ⟨by kernel_rfl, ?_⟩
  refine nx (sl 0 rfl (sl 1 rfl (sl 5 rfl (sl 6 rfl (sl 8 rfl (sl 9 rfl (sl 45 rfl sn))))))) (el 317 rfl (el 9 rfl en)) ?_
  refine tri_if rfl (fun hg => ?_) (fun hg => ?_)
  · have hte := htp i (by omega)
    have he2 : i < m := by omega
    refine tri_skip ?_
    refine nx (sl 0 rfl (sl 1 rfl (sl 5 rfl (sl 6 rfl (sl 8 rfl (sl 9 rfl sn)))))) (el 317 rfl (el 9 rfl en)) ?_
    refine tri_seq ?_
    refine tri_block ?_
    refine tri_seq ?_
    refine tri_reg mixed hcx ?_ _ _
    refine mv rfl ?_
    refine mv rfl ?_
    refine ix rfl rfl slQs ⟨rfl, by omega⟩ ?_
    refine lfx (X := T.V (lq b c (tq ts i) i 0) SN) rfl tyQ (qi_v hte rfl (by show k ≤ 2147483648; omega)) ?_
    refine nw 1014 zeQ ?_
    refine st rfl rfl rfl tyQ rfl ?_
    refine ⟨by kernel_rfl, ?_⟩
    refine nx (sl 0 rfl (sl 1 rfl (sl 5 rfl (sl 6 rfl (sl 8 rfl (sl 9 rfl (sl 10 rfl sn))))))) (el 317 rfl (el 9 rfl (el 1014 rfl en))) ?_
    refine tri_seq ?_
    refine tri_seq ?_
    refine tri_reg mixed hcx ?_ _ _
    refine asg rfl ?_
    refine ⟨by kernel_rfl, ?_⟩
    refine nx (sl 0 rfl (sl 1 rfl (sl 5 rfl (sl 6 rfl (sl 8 rfl (sl 9 rfl (sl 10 rfl (sl 11 rfl sn)))))))) (el 317 rfl (el 9 rfl (el 1014 rfl en))) ?_
    refine tri_block ?_
    refine tri_loop (ι := Nat) (fun x => [(0, T.l (cL (cZi k)) b), (1, T.l (cQi k) ts), (5, T.l (cQp SN) (c.map nd)), (6, T.p 317 0), (8, T.o 9), (9, T.c (.int .i64 (i : Int))), (10, T.p 1014 0), (11, T.c (.int .i64 (x : Int)))]) (fun x => [(317, some (Ent.box 43 [T.Q (hq b c ts b.length m) SN])), (9, some (Ent.row (cV SN) 43 (lf_ b c ts i))), (1014, some (Ent.box 43 [T.V (lq b c (tq ts i) i x) SN]))]) (fun x => b.length - x) (fun x => (x ≤ b.length)) 0 (Nat.zero_le _) (sl 0 rfl (sl 1 rfl (sl 5 rfl (sl 6 rfl (sl 8 rfl (sl 9 rfl (sl 10 rfl (sl 11 rfl sn)))))))) (el 317 rfl (el 9 rfl (el 1014 rfl en))) ?_
    rintro x hx
    refine tri_sub (sl 0 rfl (sl 1 rfl (sl 5 rfl (sl 6 rfl (sl 8 rfl (sl 9 rfl (sl 10 rfl (sl 11 rfl sn)))))))) (el 317 rfl (el 9 rfl (el 1014 rfl en))) ?_
    refine tri_seq ?_
    refine tri_seq ?_
    refine tri_reg mixed hcx ?_ _ _
    refine mv rfl ?_
    refine mv rfl ?_
    refine ln slZss rfl ?_
    refine clt rfl rfl rfl ?_
    refine ⟨by kernel_rfl, ?_⟩
    refine nx (sl 0 rfl (sl 1 rfl (sl 5 rfl (sl 6 rfl (sl 8 rfl (sl 9 rfl (sl 10 rfl (sl 11 rfl (sl 55 rfl sn))))))))) (el 317 rfl (el 9 rfl (el 1014 rfl en))) ?_
    refine tri_if rfl (fun hf => ?_) (fun hf => ?_)
    · have hmx : (b.getD x (cL (cZi k)).dflt).length = m := hm x (by omega)
      refine tri_skip ?_
      refine nx (sl 0 rfl (sl 1 rfl (sl 5 rfl (sl 6 rfl (sl 8 rfl (sl 9 rfl (sl 10 rfl (sl 11 rfl sn)))))))) (el 317 rfl (el 9 rfl (el 1014 rfl en))) ?_
      refine tri_seq ?_
      refine tri_block ?_
      refine tri_reg mixed hcx ?_ _ _
      refine ld rfl rfl tyQ rfl ?_
      refine mv rfl ?_
      refine mv rfl ?_
      refine ix rfl rfl slQs ⟨rfl, by omega⟩ ?_
      refine lfx (X := T.Q (c.getD x 0) SN) rfl tyQ (p_q (map_nd (by omega))) ?_
      refine mv rfl ?_
      refine mv rfl ?_
      refine ix rfl rfl slZss ⟨rfl, by omega⟩ ?_
      refine lf rfl tyZs ?_
      refine mv rfl ?_
      refine ix rfl rfl slZs ⟨rfl, by omega⟩ ?_
      refine lf rfl tyZ ?_
      refine ca rfl (h := r03_Of (by omega)) (hn := ?_)
      refine cb rfl (h := r3v_Mul (by omega) (by omega)) (hn := ?_)
      refine cb rfl (h := r3v_Sub (by omega) (by omega)) (hn := ?_)
      refine st rfl rfl rfl tyQ rfl ?_
      refine ⟨by kernel_rfl, ?_⟩
      refine pn_blk ?_
      refine nx (sl 0 rfl (sl 1 rfl (sl 5 rfl (sl 6 rfl (sl 8 rfl (sl 9 rfl (sl 10 rfl (sl 11 rfl sn)))))))) (el 317 rfl (el 9 rfl (el 1014 rfl en))) ?_
      refine tri_reg mixed hcx ?_ _ _
      refine mv rfl ?_
      refine ad (((x + 1 : Nat) : Int)) rfl rfl rfl (by omega) ?_
      refine asg rfl ?_
      refine ⟨by kernel_rfl, ?_⟩
      exact pn_back (x + 1) (by first | omega | (dsimp only; omega)) (by omega) (sl 0 rfl (sl 1 rfl (sl 5 rfl (sl 6 rfl (sl 8 rfl (sl 9 rfl (sl 10 rfl (sl 11 rfl sn)))))))) (el 317 rfl (el 9 rfl (ew 1014 rfl (box_pack1 (q_vq rfl (hl i he2 (x + 1) (by omega)))) en)))
    · refine tri_exit ?_
      repeat (first | refine pn_then ?_ | refine pn_oth (by decide) ?_)
      refine pn_ex ?_
      have hxn : x = b.length := by omega
      refine nx (sl 0 rfl (sl 1 rfl (sl 5 rfl (sl 6 rfl (sl 8 rfl (sl 9 rfl (sl 10 rfl sn))))))) (el 317 rfl (el 9 rfl (el 1014 rfl en))) ?_
      refine tri_reg mixed hcx ?_ _ _
      refine mv rfl ?_
      refine ld rfl rfl tyQ rfl ?_
      refine bs (c := cV SN) (xs := [lq b c (tq ts i) i b.length]) slQs rfl ⟨v_cv (by rw [hxn]), trivial⟩ ?_
      refine ap 1513 rfl rfl rfl slQs (by simp only [List.length_cons, List.length_nil]; omega) (by decide) ?_
      refine asg rfl ?_
      refine ⟨by kernel_rfl, ?_⟩
      refine pn_blk ?_
      refine nx (sl 0 rfl (sl 1 rfl (sl 5 rfl (sl 6 rfl (sl 8 rfl (sl 9 rfl sn)))))) (el 317 rfl (el 1014 rfl (el 1513 rfl en))) ?_
      refine tri_reg mixed hcx ?_ _ _
      refine mv rfl ?_
      refine ad (((i + 1 : Nat) : Int)) rfl rfl rfl (by omega) ?_
      refine asg rfl ?_
      refine ⟨by kernel_rfl, ?_⟩
      refine pn_sub (sl 0 rfl (sl 1 rfl (sl 5 rfl (sl 6 rfl (sl 8 rfl (sl 9 rfl sn)))))) (el 317 rfl (el 1014 rfl (el 1513 rfl en))) ?_
      refine pn_ren 8 9 1513 rfl rfl (by rw [hcx]; kernel_rfl) ?_
      exact pn_back (i + 1) (by first | omega | (dsimp only; omega)) (by omega) (sl 0 rfl (sl 1 rfl (sl 5 rfl (sl 6 rfl (sl 8 rfl (sl 9 rfl sn)))))) (el 317 rfl (ew 9 rfl (.of (by rw [lf_succ])) en))
  · refine tri_exit ?_
    repeat (first | refine pn_then ?_ | refine pn_oth (by decide) ?_)
    refine pn_ex ?_
    have hem : i = m := by omega
    refine nx (sl 0 rfl (sl 6 rfl (sl 8 rfl sn))) (el 317 rfl (el 9 rfl en)) ?_
    refine tri_seq ?_
    refine tri_fz 9 rfl ?_
    refine tri_rd 8 9 rfl rfl ?_
    refine tri_as 8 (Z := T.l (cV SN) (lf_ b c ts m)) rfl (.of (by rw [hem])) ?_
    refine tri_reg mixed hcx ?_ _ _
    refine bu stZ rfl ?_
    refine ca rfl (h := r03_Of (by omega)) (hn := ?_)
    refine nw 1612 zeQ ?_
    refine st rfl rfl rfl tyQ rfl ?_
    refine ⟨by kernel_rfl, ?_⟩
    refine nx (sl 0 rfl (sl 6 rfl (sl 8 rfl (sl 12 rfl sn)))) (el 317 rfl (el 1612 rfl en)) ?_
    refine tri_seq ?_
    refine tri_seq ?_
    refine tri_reg mixed hcx ?_ _ _
    refine asg rfl ?_
    refine ⟨by kernel_rfl, ?_⟩
    refine nx (sl 0 rfl (sl 6 rfl (sl 8 rfl (sl 12 rfl (sl 13 rfl sn))))) (el 317 rfl (el 1612 rfl en)) ?_
    refine tri_block ?_
    refine tri_loop (ι := Nat) (fun e => [(0, T.l (cL (cZi k)) b), (6, T.p 317 0), (8, T.l (cV SN) (lf_ b c ts m)), (12, T.p 1612 0), (13, T.c (.int .i64 (e : Int)))]) (fun e => [(317, some (Ent.box 43 [T.Q (hq b c ts b.length m) SN])), (1612, some (Ent.box 43 [T.Q (hq b c ts b.length e) SN]))]) (fun e => m - e) (fun e => (e ≤ m)) 0 (Nat.zero_le _) (sl 0 rfl (sl 6 rfl (sl 8 rfl (sl 12 rfl (sl 13 rfl sn))))) (el 317 rfl (ew 1612 rfl (box_pack1 (q_qb (by rfl) (hh 0 (Nat.zero_le _)))) en)) ?_
    rintro e he
    refine tri_sub (sl 0 rfl (sl 6 rfl (sl 8 rfl (sl 12 rfl (sl 13 rfl sn))))) (el 317 rfl (el 1612 rfl en)) ?_
    have hll2 := @lf_len b c ts m
    refine tri_seq ?_
    refine tri_seq ?_
    refine tri_reg mixed hcx ?_ _ _
    refine mv rfl ?_
    refine mv rfl ?_
    refine ln slQs rfl ?_
    refine clt rfl rfl rfl ?_
    refine ⟨by kernel_rfl, ?_⟩
    refine nx (sl 0 rfl (sl 6 rfl (sl 8 rfl (sl 12 rfl (sl 13 rfl (sl 82 rfl sn)))))) (el 317 rfl (el 1612 rfl en)) ?_
    refine tri_if rfl (fun hi2 => ?_) (fun hi2 => ?_)
    · have he2 : e < m := by omega
      refine tri_skip ?_
      refine nx (sl 0 rfl (sl 6 rfl (sl 8 rfl (sl 12 rfl (sl 13 rfl sn))))) (el 317 rfl (el 1612 rfl en)) ?_
      refine tri_seq ?_
      refine tri_block ?_
      refine tri_reg mixed hcx ?_ _ _
      refine ld rfl rfl tyQ rfl ?_
      refine mv rfl ?_
      refine mv rfl ?_
      refine ix rfl rfl slQs ⟨rfl, by omega⟩ ?_
      refine lfx (X := T.V (lq b c (tq ts e) e b.length) SN) rfl tyQ (cv_v (lf_at he2)) ?_
      refine mv rfl ?_
      refine mv rfl ?_
      refine ix rfl rfl slQs ⟨rfl, by omega⟩ ?_
      refine lfx (X := T.V (lq b c (tq ts e) e b.length) SN) rfl tyQ (cv_v (lf_at he2)) ?_
      refine cb rfl (h := r3v_Mul (by omega) (by omega)) (hn := ?_)
      refine cb rfl (h := r3v_Add (by omega) (by omega)) (hn := ?_)
      refine st rfl rfl rfl tyQ rfl ?_
      refine ⟨by kernel_rfl, ?_⟩
      refine pn_blk ?_
      refine nx (sl 0 rfl (sl 6 rfl (sl 8 rfl (sl 12 rfl (sl 13 rfl sn))))) (el 317 rfl (el 1612 rfl en)) ?_
      refine tri_reg mixed hcx ?_ _ _
      refine mv rfl ?_
      refine ad (((e + 1 : Nat) : Int)) rfl rfl rfl (by omega) ?_
      refine asg rfl ?_
      refine ⟨by kernel_rfl, ?_⟩
      exact pn_back (e + 1) (by first | omega | (dsimp only; omega)) (by omega) (sl 0 rfl (sl 6 rfl (sl 8 rfl (sl 12 rfl (sl 13 rfl sn))))) (el 317 rfl (ew 1612 rfl (box_pack1 (q_qb rfl (hh (e + 1) (by omega)))) en))
    · refine tri_exit ?_
      repeat (first | refine pn_then ?_ | refine pn_oth (by decide) ?_)
      refine pn_ex ?_
      have hem2 : e = m := by omega
      refine nx (sl 0 rfl (sl 6 rfl (sl 8 rfl (sl 12 rfl sn)))) (el 317 rfl (el 1612 rfl en)) ?_
      refine tri_seq ?_
      refine tri_seq ?_
      refine tri_reg mixed hcx ?_ _ _
      refine asg rfl ?_
      refine ⟨by kernel_rfl, ?_⟩
      refine nx (sl 0 rfl (sl 6 rfl (sl 8 rfl (sl 12 rfl (sl 14 rfl sn))))) (el 317 rfl (el 1612 rfl en)) ?_
      refine tri_block ?_
      refine tri_loop (ι := Nat) (fun i => [(0, T.l (cL (cZi k)) b), (6, T.p 317 0), (8, T.l (cV SN) (lf_ b c ts m)), (12, T.p 1612 0), (14, T.c (.int .i64 (i : Int)))]) (fun i => [(317, some (Ent.box 43 [T.Q (hq b c ts b.length m) SN])), (1612, some (Ent.box 43 [T.Q (hq b c ts b.length m) SN]))]) (fun i => b.length - i) (fun i => (i ≤ b.length)) 0 (Nat.zero_le _) (sl 0 rfl (sl 6 rfl (sl 8 rfl (sl 12 rfl (sl 14 rfl sn))))) (el 317 rfl (ew 1612 rfl (.of (by rw [hem2])) en)) ?_
      rintro i hi
      refine tri_sub (sl 0 rfl (sl 6 rfl (sl 8 rfl (sl 12 rfl (sl 14 rfl sn))))) (el 317 rfl (el 1612 rfl en)) ?_
      have hll3 := @lf_len b c ts m
      refine tri_seq ?_
      refine tri_seq ?_
      refine tri_reg mixed hcx ?_ _ _
      refine mv rfl ?_
      refine mv rfl ?_
      refine ln slZss rfl ?_
      refine clt rfl rfl rfl ?_
      refine ⟨by kernel_rfl, ?_⟩
      refine nx (sl 0 rfl (sl 6 rfl (sl 8 rfl (sl 12 rfl (sl 14 rfl (sl 99 rfl sn)))))) (el 317 rfl (el 1612 rfl en)) ?_
      refine tri_if rfl (fun hj => ?_) (fun hj => ?_)
      · have hi3 : i < b.length := by omega
        have hmx : (b.getD i (cL (cZi k)).dflt).length = m := hm i hi3
        refine tri_skip ?_
        refine nx (sl 0 rfl (sl 6 rfl (sl 8 rfl (sl 12 rfl (sl 14 rfl sn))))) (el 317 rfl (el 1612 rfl en)) ?_
        refine tri_seq ?_
        refine tri_block ?_
        refine tri_seq ?_
        refine tri_reg mixed hcx ?_ _ _
        refine bu stZ rfl ?_
        refine ca rfl (h := r03_Of (by omega)) (hn := ?_)
        refine nw 2412 zeQ ?_
        refine st rfl rfl rfl tyQ rfl ?_
        refine ⟨by kernel_rfl, ?_⟩
        refine nx (sl 0 rfl (sl 6 rfl (sl 8 rfl (sl 12 rfl (sl 14 rfl (sl 15 rfl sn)))))) (el 317 rfl (el 1612 rfl (el 2412 rfl en))) ?_
        refine tri_seq ?_
        refine tri_seq ?_
        refine tri_reg mixed hcx ?_ _ _
        refine asg rfl ?_
        refine ⟨by kernel_rfl, ?_⟩
        refine nx (sl 0 rfl (sl 6 rfl (sl 8 rfl (sl 12 rfl (sl 14 rfl (sl 15 rfl (sl 16 rfl sn))))))) (el 317 rfl (el 1612 rfl (el 2412 rfl en))) ?_
        refine tri_block ?_
        refine tri_loop (ι := Nat) (fun e => [(0, T.l (cL (cZi k)) b), (6, T.p 317 0), (8, T.l (cV SN) (lf_ b c ts m)), (12, T.p 1612 0), (14, T.c (.int .i64 (i : Int))), (15, T.p 2412 0), (16, T.c (.int .i64 (e : Int)))]) (fun e => [(317, some (Ent.box 43 [T.Q (hq b c ts b.length m) SN])), (1612, some (Ent.box 43 [T.Q (hq b c ts b.length m) SN])), (2412, some (Ent.box 43 [T.Q (nq b c ts b.length i e) SN]))]) (fun e => m - e) (fun e => (e ≤ m)) 0 (Nat.zero_le _) (sl 0 rfl (sl 6 rfl (sl 8 rfl (sl 12 rfl (sl 14 rfl (sl 15 rfl (sl 16 rfl sn))))))) (el 317 rfl (el 1612 rfl (ew 2412 rfl (box_pack1 (q_qb (by rfl) (hnn i hi3 0 (Nat.zero_le _)))) en))) ?_
        rintro e he
        refine tri_sub (sl 0 rfl (sl 6 rfl (sl 8 rfl (sl 12 rfl (sl 14 rfl (sl 15 rfl (sl 16 rfl sn))))))) (el 317 rfl (el 1612 rfl (el 2412 rfl en))) ?_
        refine tri_seq ?_
        refine tri_seq ?_
        refine tri_reg mixed hcx ?_ _ _
        refine mv rfl ?_
        refine mv rfl ?_
        refine ln slQs rfl ?_
        refine clt rfl rfl rfl ?_
        refine ⟨by kernel_rfl, ?_⟩
        refine nx (sl 0 rfl (sl 6 rfl (sl 8 rfl (sl 12 rfl (sl 14 rfl (sl 15 rfl (sl 16 rfl (sl 107 rfl sn)))))))) (el 317 rfl (el 1612 rfl (el 2412 rfl en))) ?_
        refine tri_if rfl (fun hk2 => ?_) (fun hk2 => ?_)
        · have he2 : e < m := by omega
          refine tri_skip ?_
          refine nx (sl 0 rfl (sl 6 rfl (sl 8 rfl (sl 12 rfl (sl 14 rfl (sl 15 rfl (sl 16 rfl sn))))))) (el 317 rfl (el 1612 rfl (el 2412 rfl en))) ?_
          refine tri_seq ?_
          refine tri_block ?_
          refine tri_reg mixed hcx ?_ _ _
          refine ld rfl rfl tyQ rfl ?_
          refine mv rfl ?_
          refine mv rfl ?_
          refine ix rfl rfl slQs ⟨rfl, by omega⟩ ?_
          refine lfx (X := T.V (lq b c (tq ts e) e b.length) SN) rfl tyQ (cv_v (lf_at he2)) ?_
          refine mv rfl ?_
          refine mv rfl ?_
          refine ix rfl rfl slZss ⟨rfl, by omega⟩ ?_
          refine lf rfl tyZs ?_
          refine mv rfl ?_
          refine ix rfl rfl slZs ⟨rfl, by omega⟩ ?_
          refine lf rfl tyZ ?_
          refine ca rfl (h := r03_Of (by omega)) (hn := ?_)
          refine cb rfl (h := r3v_Mul (by omega) (by omega)) (hn := ?_)
          refine cb rfl (h := r3v_Add (by omega) (by omega)) (hn := ?_)
          refine st rfl rfl rfl tyQ rfl ?_
          refine ⟨by kernel_rfl, ?_⟩
          refine pn_blk ?_
          refine nx (sl 0 rfl (sl 6 rfl (sl 8 rfl (sl 12 rfl (sl 14 rfl (sl 15 rfl (sl 16 rfl sn))))))) (el 317 rfl (el 1612 rfl (el 2412 rfl en))) ?_
          refine tri_reg mixed hcx ?_ _ _
          refine mv rfl ?_
          refine ad (((e + 1 : Nat) : Int)) rfl rfl rfl (by omega) ?_
          refine asg rfl ?_
          refine ⟨by kernel_rfl, ?_⟩
          exact pn_back (e + 1) (by first | omega | (dsimp only; omega)) (by omega) (sl 0 rfl (sl 6 rfl (sl 8 rfl (sl 12 rfl (sl 14 rfl (sl 15 rfl (sl 16 rfl sn))))))) (el 317 rfl (el 1612 rfl (ew 2412 rfl (box_pack1 (q_qb rfl (hnn i hi3 (e + 1) (by omega)))) en)))
        · refine tri_exit ?_
          repeat (first | refine pn_then ?_ | refine pn_oth (by decide) ?_)
          refine pn_ex ?_
          have hem3 : e = m := by omega
          have hsg0 : sg (nq b c ts b.length i e).num = 0 := by rw [hem3, hz i hi3]; rfl
          refine nx (sl 0 rfl (sl 6 rfl (sl 8 rfl (sl 12 rfl (sl 14 rfl (sl 15 rfl sn)))))) (el 317 rfl (el 1612 rfl (el 2412 rfl en))) ?_
          refine tri_seq ?_
          refine tri_sub (sl 0 rfl (sl 6 rfl (sl 8 rfl (sl 12 rfl (sl 14 rfl (sl 15 rfl sn)))))) (el 317 rfl (el 1612 rfl (ew 2412 rfl box_open en))) ?_
          refine tri_reg mixed hcx ?_ _ _
          refine fa rfl fNum 0 ?_
          refine ld rfl rfl tyZ rfl ?_
          refine ca rfl (h := r02_Sign (by omega)) (hn := ?_)
          refine cne rfl rfl (decide_eq_false (by omega)) ?_
          refine ⟨by kernel_rfl, ?_⟩
          refine nx (sl 0 rfl (sl 6 rfl (sl 8 rfl (sl 12 rfl (sl 14 rfl (sl 128 rfl sn)))))) (el 317 rfl (el 1612 rfl (el 2412 rfl en))) ?_
          refine tri_false rfl rfl ?_
          refine tri_skip ?_
          refine pn_blk ?_
          refine nx (sl 0 rfl (sl 6 rfl (sl 8 rfl (sl 12 rfl (sl 14 rfl sn))))) (el 317 rfl (el 1612 rfl (el 2412 rfl en))) ?_
          refine tri_reg mixed hcx ?_ _ _
          refine mv rfl ?_
          refine ad (((i + 1 : Nat) : Int)) rfl rfl rfl (by omega) ?_
          refine asg rfl ?_
          refine ⟨by kernel_rfl, ?_⟩
          exact pn_back (i + 1) (by first | omega | (dsimp only; omega)) (by omega) (sl 0 rfl (sl 6 rfl (sl 8 rfl (sl 12 rfl (sl 14 rfl sn))))) (el 317 rfl (el 1612 rfl en))
      · refine tri_exit ?_
        repeat (first | refine pn_then ?_ | refine pn_oth (by decide) ?_)
        refine pn_ex ?_
        refine nx (sl 6 rfl (sl 12 rfl sn)) (el 317 rfl (el 1612 rfl en)) ?_
        refine tri_seq ?_
        refine tri_reg mixed hcx ?_ _ _
        refine ld rfl rfl tyQ rfl ?_
        refine ld rfl rfl tyQ rfl ?_
        refine ca rfl (h := law_same (by omega) (by omega)) (hn := ?_)
        refine asg rfl ?_
        refine ⟨by kernel_rfl, ?_⟩
        refine nx (sl 4 rfl sn) (el 317 rfl (el 1612 rfl en)) ?_
        refine tri_ret ?_
        repeat (first | refine pn_thenr ?_ | refine pn_blkr ?_)
        exact ret1 hcx rfl (rv_tmp rfl) (.refl _) en
end Go.Proofs.Ytmfgnbchehnpjaa.V
/- The nearest point: the law. -/
set_option linter.unusedVariables false
set_option linter.unusedSimpArgs false
set_option maxRecDepth 100000
namespace Go.Proofs.Ytmfgnbchehnpjaa.V
open Go.RowKit Mt Nml
theorem cells_qz {k : Nat} {u : World} : ∀ {l : List (Int × Int)} {cs : List Value}, Cells B0 u (l.map (cQi k).X) cs → ∀ q ∈ l, zl q.1 ≤ k ∧ zl q.2 ≤ k
  | [], _, _, q, h => by cases h
  | a :: r, cs, ⟨v, rest, _, ⟨ys, _, v1, r1, _, h1, _, v2, r2, _, h3, _⟩, _, h2⟩, q, h => by
    rcases List.mem_cons.1 h with rfl | h
    · exact ⟨zi_zl h1, zi_zl h3⟩
    · exact cells_qz h2 q h
theorem l_qz {k : Nat} {β : Env} {u : World} {l : List (Int × Int)} {v : Value} (h : (T.l (cQi k) l).rep β u v) : ∀ q ∈ l, zl q.1 ≤ k ∧ zl q.2 ≤ k := fun q hq => by
  obtain ⟨A, n, c, _, h1, _, _, h4⟩ := h
  have hp : 0 < n := by rw [← h1]; exact List.length_pos_of_mem hq
  obtain ⟨ad, _, xs, h5, _⟩ := h4 hp
  exact cells_qz h5 q hq
theorem fn_qz {P : Program} {f : FuncId} {A R : T} {ts : List (Int × Int)} {k : Nat} {Ei Eo : List (Nat × Ent)} {N : List Nat} (h : (∀ i, i < ts.length → zl (ts.getD i (0, 0)).1 ≤ k ∧ zl (ts.getD i (0, 0)).2 ≤ k) → Fn P f [A, T.l (cQi k) ts] Ei Eo N R) : Fn P f [A, T.l (cQi k) ts] Ei Eo N R := fun vs β u w F hs hr hH => by
  match vs, hr with
  | [v0, v1], ⟨r0, r1, r2⟩ =>
    refine h (fun i hi => ?_) _ β u w F hs ⟨r0, r1, r2⟩ hH
    have := l_qz r1 (ts.getD i (0, 0)) (by rw [List.getD_eq_getElem?_getD, List.getElem?_eq_getElem hi]; exact List.getElem_mem hi)
    exact this
/-- Everything that is known of a basis's data. -/
theorem data_of {b : List (List Int)} {D : List Int} {L : List (List Int)} (hR : ShR b true 0) (h : bld b b.length = some (D, L)) : DI b b.length D L ∧ (∀ k, k ≤ b.length → zl (D.getD k 0) ≤ 839679) ∧ (∀ i j, i < b.length → j < i → zl ((L.getD i []).getD j 0) ≤ 839679) ∧ (∀ k, k ≤ b.length → 0 < D.getD k 0) ∧ GoodP D L ∧ L.length = b.length ∧ (∀ i j, zl ((b.getD i []).getD j 0) ≤ 8) := by
  obtain ⟨h0, hb, hm, hm12, hbits⟩ := shr_basis hR
  have hS := val_S hbits (fun i hi => by rw [hm i hi]; exact hm12)
  have hB := bld_BI hS (Nat.le_refl _) h
  have hI := bld_DI h
  have hle : ∀ k, k ≤ 12 → bd 204 k ≤ 839679 := fun k hk => Nat.le_trans (bd_mono hk) (by decide)
  refine ⟨hI, fun k hk => ?_, fun i j hi hj => ?_, hB.pos, hI.good h0, hI.lL, ent_bits hbits⟩
  · cases k with
    | zero =>
      rw [(hI.good h0).2.2.1]
      exact Nat.le_trans zl_one (by decide)
    | succ k => exact Nat.le_trans (hB.bD k (by omega)) (hle k (by omega))
  · exact Nat.le_trans (hB.bL i j hi hj) (hle j (by omega))
theorem den_bad {ts : List (Int × Int)} (h : ¬ ∀ i, i < ts.length → 0 < (ts.getD i (0, 0)).2) : ∃ w, w < ts.length ∧ ¬ 0 < (ts.getD w (0, 0)).2 ∧ ∀ i, i < w → 0 < (ts.getD i (0, 0)).2 := by
  have h' : ∃ w, w < ts.length ∧ ¬ 0 < (ts.getD w (0, 0)).2 := Classical.byContradiction fun hn => h fun i hi => Classical.byContradiction fun hc => hn ⟨i, hi, hc⟩
  obtain ⟨w, ⟨h1, h2⟩, h3⟩ := least (fun i => i < ts.length ∧ ¬ 0 < (ts.getD i (0, 0)).2) h'
  refine ⟨w, h1, h2, fun i hi => Classical.byContradiction fun hc => ?_⟩
  have := h3 i ⟨by omega, hc⟩
  omega
/-- The law, of all rows and points. -/
theorem near_all {b : List (List Int)} {ts : List (Int × Int)} {k : Nat} (hk : k ≤ 1048576) (hrr : ∀ i, i < b.length → (b.getD i []).length ≤ 1048576) (hbl : b.length ≤ 1048576) (htl : ts.length ≤ 1048576) : Fn Try.prog 9 [T.l (cL (cZi k)) b, T.l (cQi k) ts] [] [] [] (T.c (.bool true)) := by
  obtain ⟨r, hR⟩ := ShR.ex b true
  by_cases hr : r = 0
  · subst hr
    obtain ⟨h0, hb, hm, hm12, hbits⟩ := shr_basis hR
    have hS := val_S hbits (fun i hi => by rw [hm i hi]; exact hm12)
    cases h : bld b b.length with
    | none => exact near_no hk htl hbl (g_Coords_err hk htl (g_Valid_no (K := 839679) h0 hb hm hk hm12 hR h hS (by decide) (by decide) (by decide)) (by decide)) (by decide)
    | some p =>
      obtain ⟨D, L⟩ := p
      have hv := g_Valid_ok (K := 839679) h0 hb hm hk hm12 hR h hS (by decide) (by decide) (by decide)
      by_cases hts : ts.length = (b.getD 0 []).length
      · by_cases htp : ∀ i, i < ts.length → 0 < (ts.getD i (0, 0)).2
        · refine fn_qz fun htz => ?_
          obtain ⟨hI, hD, hL, hp, hG, hLn, hbz⟩ := data_of hR h
          have hs := sizes_of hI hD hL hp hb hm12 hts htp (fun i hi => ⟨Nat.le_trans (htz i hi).1 hk, Nat.le_trans (htz i hi).2 hk⟩) hbz
          have hl := g_lies (a := fun i => alq ts (b.getD i []) (b.getD 0 []).length) (g_Wide_ok (K := 839679) h0 hb hm hk hm12 (shr_wide hR) h hS (by decide) (by decide) (by decide)) hG hLn (by decide) hm hts hm12 hb htp hk (fun _ _ => rfl) hs
          have hN := near_of hI (fun i => alq ts (b.getD i []) (b.getD 0 []).length)
          exact near_ok hk hb hm hts hm12 htp (cB_len _ _ _ _ _) (g_Coords_ok hk htl hv h0 rfl hm12 hts htp hl) hs.l hs.h hs.nn (fun i hi => nq_zero hm hN hi)
        · obtain ⟨w, hw, hw1, hw2⟩ := den_bad htp
          exact near_no hk htl hbl (g_Coords_rat hk htl hv h0 rfl hm12 hts hw hw1 hw2) (by decide)
      · exact near_no hk htl hbl (g_Coords_shape hk htl hv h0 rfl hm12 hts) (by decide)
  · exact near_no hk htl hbl (g_Coords_err hk htl (g_Valid_err hk hrr hbl hR hr) hr) hr
end Go.Proofs.Ytmfgnbchehnpjaa.V
