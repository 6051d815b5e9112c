/- Search trees: the document's parts and centres. -/
import Derived.Test.YtekghdfbhbhigaaGreatM06
set_option linter.unusedVariables false
set_option linter.unusedSimpArgs false
set_option maxRecDepth 100000
namespace Go.Proofs.YtekghdfbhbhigaaGreat.V
open Go.RowKit Mt Nml
theorem sgq_le {x y : Rat} : sg (x - y).num ≤ 0 ↔ x ≤ y := by
  rcases three x y with h | h | h
  · exact ⟨fun _ => Rat.le_of_lt h, fun _ => by have := sgq_lt h; omega⟩
  · exact ⟨fun _ => by rw [h]; exact Rat.le_refl, fun _ => by have := sgq_eq h; omega⟩
  · exact ⟨fun h2 => by have := sgq_gt h; omega, fun h2 => absurd h (Rat.not_lt.2 h2)⟩

theorem r11_Valid1 {D : List Int} {L : List (List Int)} {ts : List (Int × Int)} {a b : Int} {k : Nat} (hk : k ≤ 16777216) (hLl : L.length ≤ 1048576) (hDl : D.length ≤ 1048576) (htl : ts.length ≤ 1048576) (hG : ¬ GoodP D L) : Fn Tryz.prog 21 [T.Tr D L ts a b k] [] [] [] (T.c (.bool false)) := by
  refine fn_of Tryz.func21 rfl (by show 1 ≤ 55; decide) fun cx hcx => ?_
  refine tri_sub (sl 0 rfl sn) en ?_
  refine tri_seq ?_
  refine tri_reg mixed hcx ?_ _ _
  refine bxs 10 rfl ?_
  refine asg rfl ?_
  refine ⟨by kernel_rfl, ?_⟩
  refine nx (sl 1 rfl sn) (el 10 rfl en) ?_
  refine tri_seq ?_
  refine tri_seq ?_
  refine tri_reg mixed hcx ?_ _ _
  refine fa rfl fTrG 0 ?_
  refine ld rfl rfl tyG rfl ?_
  refine ca rfl (h := r05_Good (q := false) (by simp [hG]) (by omega) (by omega) (by omega)) (hn := ?_)
  refine nt rfl _ rfl ?_
  refine mv rfl ?_
  refine j_off rfl rfl rfl rfl ?_
  refine j_off rfl rfl rfl rfl ?_
  refine j_off rfl rfl rfl rfl ?_
  refine j_off rfl rfl rfl rfl ?_
  refine j_off rfl rfl rfl rfl ?_
  refine pk rfl rfl ?_
  refine mv rfl ?_
  refine j_off rfl rfl rfl rfl ?_
  refine j_off rfl rfl rfl rfl ?_
  refine j_off rfl rfl rfl rfl ?_
  refine j_off rfl rfl rfl rfl ?_
  refine j_off rfl rfl rfl rfl ?_
  refine j_ofu rfl rfl rfl ?_
  refine j_ofu rfl rfl rfl ?_
  refine j_ofu rfl rfl rfl ?_
  refine j_ofu rfl rfl rfl ?_
  refine j_ofu rfl rfl rfl ?_
  refine j_ofu rfl rfl rfl ?_
  refine j_ofu rfl rfl rfl ?_
  refine j_ofu rfl rfl rfl ?_
  refine j_off rfl rfl rfl rfl ?_
  refine pk rfl rfl ?_
  refine ⟨by kernel_rfl, ?_⟩
  refine nx (sl 1 rfl (sl 30 rfl sn)) (el 10 rfl en) ?_
  refine tri_true rfl rfl ?_
  refine tri_seq ?_
  refine tri_reg mixed hcx ?_ _ _
  refine asg rfl ?_
  refine ⟨by kernel_rfl, ?_⟩
  refine nx (sl 2 rfl sn) (el 10 rfl en) ?_
  refine tri_ret ?_
  repeat (first | refine pn_thenr ?_ | refine pn_blkr ?_)
  exact ret1 hcx rfl (rv_tmp rfl) (.refl _) en

theorem r11_Valid2 {D : List Int} {L : List (List Int)} {ts : List (Int × Int)} {a b : Int} {k : Nat} (hk : k ≤ 16777216) (hLl : L.length ≤ 1048576) (hDl : D.length ≤ 1048576) (htl : ts.length ≤ 1048576) (hG : GoodP D L) (hn : 12 < L.length) : Fn Tryz.prog 21 [T.Tr D L ts a b k] [] [] [] (T.c (.bool false)) := by
  refine fn_of Tryz.func21 rfl (by show 1 ≤ 55; decide) fun cx hcx => ?_
  refine tri_sub (sl 0 rfl sn) en ?_
  refine tri_seq ?_
  refine tri_reg mixed hcx ?_ _ _
  refine bxs 10 rfl ?_
  refine asg rfl ?_
  refine ⟨by kernel_rfl, ?_⟩
  refine nx (sl 1 rfl sn) (el 10 rfl en) ?_
  refine tri_seq ?_
  refine tri_seq ?_
  refine tri_reg mixed hcx ?_ _ _
  refine fa rfl fTrG 0 ?_
  refine ld rfl rfl tyG rfl ?_
  refine ca rfl (h := r05_Good (q := true) (by simp [hG]) (by omega) (by omega) (by omega)) (hn := ?_)
  refine nt rfl _ rfl ?_
  refine mv rfl ?_
  refine fa rfl fTrG 0 ?_ (hg := gd1)
  refine fa rfl fL 1 ?_ (hg := gd1)
  refine ld rfl rfl tyZss rfl ?_ (hg := gd1)
  refine ln slZss rfl ?_ (hg := gd1)
  refine cgt rfl rfl (decide_eq_true (by omega)) ?_ (hg := gd1)
  refine pk rfl rfl ?_
  refine mv rfl ?_
  refine j_off rfl rfl rfl rfl ?_
  refine j_off rfl rfl rfl rfl ?_
  refine j_off rfl rfl rfl rfl ?_
  refine j_off rfl rfl rfl rfl ?_
  refine j_off rfl rfl rfl rfl ?_
  refine j_ofu rfl rfl rfl ?_
  refine j_ofu rfl rfl rfl ?_
  refine j_ofu rfl rfl rfl ?_
  refine j_ofu rfl rfl rfl ?_
  refine j_ofu rfl rfl rfl ?_
  refine j_ofu rfl rfl rfl ?_
  refine j_ofu rfl rfl rfl ?_
  refine j_ofu rfl rfl rfl ?_
  refine j_off rfl rfl rfl rfl ?_
  refine pk rfl rfl ?_
  refine ⟨by kernel_rfl, ?_⟩
  refine nx (sl 1 rfl (sl 30 rfl sn)) (el 10 rfl en) ?_
  refine tri_true rfl rfl ?_
  refine tri_seq ?_
  refine tri_reg mixed hcx ?_ _ _
  refine asg rfl ?_
  refine ⟨by kernel_rfl, ?_⟩
  refine nx (sl 2 rfl sn) (el 10 rfl en) ?_
  refine tri_ret ?_
  repeat (first | refine pn_thenr ?_ | refine pn_blkr ?_)
  exact ret1 hcx rfl (rv_tmp rfl) (.refl _) en

theorem r11_Valid3 {D : List Int} {L : List (List Int)} {ts : List (Int × Int)} {a b : Int} {k : Nat} (hk : k ≤ 16777216) (hLl : L.length ≤ 1048576) (hDl : D.length ≤ 1048576) (htl : ts.length ≤ 1048576) (hG : GoodP D L) (hn : L.length ≤ 12) (h1 : ts.length ≠ 0) (h2 : ts.length ≠ L.length) : Fn Tryz.prog 21 [T.Tr D L ts a b k] [] [] [] (T.c (.bool false)) := by
  refine fn_of Tryz.func21 rfl (by show 1 ≤ 55; decide) fun cx hcx => ?_
  refine tri_sub (sl 0 rfl sn) en ?_
  refine tri_seq ?_
  refine tri_reg mixed hcx ?_ _ _
  refine bxs 10 rfl ?_
  refine asg rfl ?_
  refine ⟨by kernel_rfl, ?_⟩
  refine nx (sl 1 rfl sn) (el 10 rfl en) ?_
  refine tri_seq ?_
  refine tri_seq ?_
  refine tri_reg mixed hcx ?_ _ _
  refine fa rfl fTrG 0 ?_
  refine ld rfl rfl tyG rfl ?_
  refine ca rfl (h := r05_Good (q := true) (by simp [hG]) (by omega) (by omega) (by omega)) (hn := ?_)
  refine nt rfl _ rfl ?_
  refine mv rfl ?_
  refine fa rfl fTrG 0 ?_ (hg := gd1)
  refine fa rfl fL 1 ?_ (hg := gd1)
  refine ld rfl rfl tyZss rfl ?_ (hg := gd1)
  refine ln slZss rfl ?_ (hg := gd1)
  refine cgt rfl rfl (decide_eq_false (by omega)) ?_ (hg := gd1)
  refine pk rfl rfl ?_
  refine mv rfl ?_
  refine fa rfl fTrT 2 ?_ (hg := gd1)
  refine ld rfl rfl tyQs rfl ?_ (hg := gd1)
  refine ln slQs rfl ?_ (hg := gd1)
  refine cne rfl rfl (decide_eq_true (by omega)) ?_ (hg := gd1)
  refine mv rfl ?_ (hg := gd1)
  refine fa rfl fTrT 2 ?_ (hg := gd1)
  refine ld rfl rfl tyQs rfl ?_ (hg := gd1)
  refine ln slQs rfl ?_ (hg := gd1)
  refine fa rfl fTrG 0 ?_ (hg := gd1)
  refine fa rfl fL 1 ?_ (hg := gd1)
  refine ld rfl rfl tyZss rfl ?_ (hg := gd1)
  refine ln slZss rfl ?_ (hg := gd1)
  refine cne rfl rfl (decide_eq_true (by omega)) ?_ (hg := gd1)
  refine pk rfl rfl ?_ (hg := gd1)
  refine pk rfl rfl ?_
  refine ⟨by kernel_rfl, ?_⟩
  refine nx (sl 1 rfl (sl 30 rfl sn)) (el 10 rfl en) ?_
  refine tri_true rfl rfl ?_
  refine tri_seq ?_
  refine tri_reg mixed hcx ?_ _ _
  refine asg rfl ?_
  refine ⟨by kernel_rfl, ?_⟩
  refine nx (sl 2 rfl sn) (el 10 rfl en) ?_
  refine tri_ret ?_
  repeat (first | refine pn_thenr ?_ | refine pn_blkr ?_)
  exact ret1 hcx rfl (rv_tmp rfl) (.refl _) en

theorem r11_Valid4 {D : List Int} {L : List (List Int)} {ts : List (Int × Int)} {a b : Int} {k : Nat} (hk : k ≤ 16777216) (hLl : L.length ≤ 1048576) (hDl : D.length ≤ 1048576) (htl : ts.length ≤ 1048576) (hG : GoodP D L) (hn : L.length ≤ 12) (ht : ts.length = 0 ∨ ts.length = L.length) {w : Nat} (hw : w < ts.length) (hw1 : ¬ 0 < (ts.getD w (0, 0)).2) (hw2 : ∀ i, i < w → 0 < (ts.getD i (0, 0)).2) : Fn Tryz.prog 21 [T.Tr D L ts a b k] [] [] [] (T.c (.bool false)) := by
  refine fn_of Tryz.func21 rfl (by show 1 ≤ 55; decide) fun cx hcx => ?_
  refine tri_sub (sl 0 rfl sn) en ?_
  refine tri_seq ?_
  refine tri_reg mixed hcx ?_ _ _
  refine bxs 10 rfl ?_
  refine asg rfl ?_
  refine ⟨by kernel_rfl, ?_⟩
  refine nx (sl 1 rfl sn) (el 10 rfl en) ?_
  refine tri_seq ?_
  refine tri_seq ?_
  by_cases htz : ts.length = 0
  · refine tri_reg mixed hcx ?_ _ _
    refine fa rfl fTrG 0 ?_
    refine ld rfl rfl tyG rfl ?_
    refine ca rfl (h := r05_Good (q := true) (by simp [hG]) (by omega) (by omega) (by omega)) (hn := ?_)
    refine nt rfl _ rfl ?_
    refine mv rfl ?_
    refine fa rfl fTrG 0 ?_ (hg := gd1)
    refine fa rfl fL 1 ?_ (hg := gd1)
    refine ld rfl rfl tyZss rfl ?_ (hg := gd1)
    refine ln slZss rfl ?_ (hg := gd1)
    refine cgt rfl rfl (decide_eq_false (by omega)) ?_ (hg := gd1)
    refine pk rfl rfl ?_
    refine mv rfl ?_
    refine fa rfl fTrT 2 ?_ (hg := gd1)
    refine ld rfl rfl tyQs rfl ?_ (hg := gd1)
    refine ln slQs rfl ?_ (hg := gd1)
    refine cne rfl rfl (decide_eq_false (by omega)) ?_ (hg := gd1)
    refine mv rfl ?_ (hg := gd1)
    refine j_off rfl rfl rfl rfl ?_
    refine j_off rfl rfl rfl rfl ?_
    refine j_off rfl rfl rfl rfl ?_
    refine j_off rfl rfl rfl rfl ?_
    refine j_off rfl rfl rfl rfl ?_
    refine j_off rfl rfl rfl rfl ?_
    refine j_off rfl rfl rfl rfl ?_
    refine j_off rfl rfl rfl rfl ?_
    refine pk rfl rfl ?_ (hg := gd1)
    refine pk rfl rfl ?_
    refine ⟨by kernel_rfl, ?_⟩
    refine nx (sl 1 rfl (sl 30 rfl sn)) (el 10 rfl en) ?_
    refine tri_false rfl rfl ?_
    refine tri_skip ?_
    refine nx (sl 1 rfl sn) (el 10 rfl en) ?_
    refine tri_seq ?_
    refine tri_seq ?_
    refine tri_reg mixed hcx ?_ _ _
    refine asg rfl ?_
    refine ⟨by kernel_rfl, ?_⟩
    refine nx (sl 1 rfl (sl 3 rfl sn)) (el 10 rfl en) ?_
    refine tri_block ?_
    refine tri_loop (ι := Nat) (fun i => [(1, T.p 10 0), (3, T.c (.int .i64 (i : Int)))]) (fun i => [(10, some (Ent.box 39 [T.l (cZi k) D, T.l (cL (cZi k)) L, T.l (cQi k) ts, T.Zi a k, T.Zi b k]))]) (fun i => ts.length - i) (fun i => (i ≤ w)) 0 (Nat.zero_le _) (sl 1 rfl (sl 3 rfl sn)) (el 10 rfl en) ?_
    rintro i hi
    refine tri_sub (sl 1 rfl (sl 3 rfl sn)) (el 10 rfl en) ?_
    refine tri_seq ?_
    refine tri_seq ?_
    refine tri_reg mixed hcx ?_ _ _
    refine mv rfl ?_
    refine fa rfl fTrT 2 ?_
    refine ld rfl rfl tyQs rfl ?_
    refine ln slQs rfl ?_
    refine clt rfl rfl (decide_eq_true (by omega)) ?_
    refine ⟨by kernel_rfl, ?_⟩
    refine nx (sl 1 rfl (sl 3 rfl (sl 35 rfl sn))) (el 10 rfl en) ?_
    refine tri_true rfl rfl ?_
    refine tri_skip ?_
    refine nx (sl 1 rfl (sl 3 rfl sn)) (el 10 rfl en) ?_
    refine tri_seq ?_
    refine tri_block ?_
    refine tri_seq ?_
    rcases Nat.lt_or_eq_of_le hi with hlt | heq
    · have hp : 0 < (ts.getD i (cQi k).dflt).2 := hw2 i hlt
      refine tri_reg mixed hcx ?_ _ _
      refine fa rfl fTrT 2 ?_
      refine ld rfl rfl tyQs rfl ?_
      refine mv rfl ?_
      refine ix rfl rfl slQs ⟨rfl, by omega⟩ ?_
      refine lf rfl tyQ ?_
      refine ca rfl (h := r03_ValidG (a := (ts.getD i (cQi k).dflt).1) (b := (ts.getD i (cQi k).dflt).2) (k := k) (q := true) (iff_of_true rfl hp) (by omega)) (hn := ?_)
      refine nt rfl _ rfl ?_
      refine ⟨by kernel_rfl, ?_⟩
      refine nx (sl 1 rfl (sl 3 rfl (sl 44 rfl sn))) (el 10 rfl en) ?_
      refine tri_false rfl rfl ?_
      refine tri_skip ?_
      refine pn_blk ?_
      refine nx (sl 1 rfl (sl 3 rfl sn)) (el 10 rfl en) ?_
      refine tri_reg mixed hcx ?_ _ _
      refine mv rfl ?_
      refine ad (((i + 1 : Nat) : Int)) rfl rfl rfl (by omega) ?_
      refine asg rfl ?_
      refine ⟨by kernel_rfl, ?_⟩
      exact pn_back (i + 1) (by first | omega | (dsimp only; omega)) (by omega) (sl 1 rfl (sl 3 rfl sn)) (el 10 rfl en)
    · have hp : ¬ 0 < (ts.getD i (cQi k).dflt).2 := by rw [heq]; exact hw1
      refine tri_reg mixed hcx ?_ _ _
      refine fa rfl fTrT 2 ?_
      refine ld rfl rfl tyQs rfl ?_
      refine mv rfl ?_
      refine ix rfl rfl slQs ⟨rfl, by omega⟩ ?_
      refine lf rfl tyQ ?_
      refine ca rfl (h := r03_ValidG (a := (ts.getD i (cQi k).dflt).1) (b := (ts.getD i (cQi k).dflt).2) (k := k) (q := false) (iff_of_false Bool.false_ne_true hp) (by omega)) (hn := ?_)
      refine nt rfl _ rfl ?_
      refine ⟨by kernel_rfl, ?_⟩
      refine nx (sl 1 rfl (sl 3 rfl (sl 44 rfl sn))) (el 10 rfl en) ?_
      refine tri_true rfl rfl ?_
      refine tri_seq ?_
      refine tri_reg mixed hcx ?_ _ _
      refine asg rfl ?_
      refine ⟨by kernel_rfl, ?_⟩
      refine nx (sl 2 rfl sn) (el 10 rfl en) ?_
      refine tri_ret ?_
      repeat (first | refine pn_thenr ?_ | refine pn_blkr ?_)
      exact ret1 hcx rfl (rv_tmp rfl) (.refl _) en
  · have htn : ts.length = L.length := by rcases ht with h | h <;> omega
    refine tri_reg mixed hcx ?_ _ _
    refine fa rfl fTrG 0 ?_
    refine ld rfl rfl tyG rfl ?_
    refine ca rfl (h := r05_Good (q := true) (by simp [hG]) (by omega) (by omega) (by omega)) (hn := ?_)
    refine nt rfl _ rfl ?_
    refine mv rfl ?_
    refine fa rfl fTrG 0 ?_ (hg := gd1)
    refine fa rfl fL 1 ?_ (hg := gd1)
    refine ld rfl rfl tyZss rfl ?_ (hg := gd1)
    refine ln slZss rfl ?_ (hg := gd1)
    refine cgt rfl rfl (decide_eq_false (by omega)) ?_ (hg := gd1)
    refine pk rfl rfl ?_
    refine mv rfl ?_
    refine fa rfl fTrT 2 ?_ (hg := gd1)
    refine ld rfl rfl tyQs rfl ?_ (hg := gd1)
    refine ln slQs rfl ?_ (hg := gd1)
    refine cne rfl rfl (decide_eq_true (by omega)) ?_ (hg := gd1)
    refine mv rfl ?_ (hg := gd1)
    refine fa rfl fTrT 2 ?_ (hg := gd1)
    refine ld rfl rfl tyQs rfl ?_ (hg := gd1)
    refine ln slQs rfl ?_ (hg := gd1)
    refine fa rfl fTrG 0 ?_ (hg := gd1)
    refine fa rfl fL 1 ?_ (hg := gd1)
    refine ld rfl rfl tyZss rfl ?_ (hg := gd1)
    refine ln slZss rfl ?_ (hg := gd1)
    refine cne rfl rfl (decide_eq_false (by omega)) ?_ (hg := gd1)
    refine pk rfl rfl ?_ (hg := gd1)
    refine pk rfl rfl ?_
    refine ⟨by kernel_rfl, ?_⟩
    refine nx (sl 1 rfl (sl 30 rfl sn)) (el 10 rfl en) ?_
    refine tri_false rfl rfl ?_
    refine tri_skip ?_
    refine nx (sl 1 rfl sn) (el 10 rfl en) ?_
    refine tri_seq ?_
    refine tri_seq ?_
    refine tri_reg mixed hcx ?_ _ _
    refine asg rfl ?_
    refine ⟨by kernel_rfl, ?_⟩
    refine nx (sl 1 rfl (sl 3 rfl sn)) (el 10 rfl en) ?_
    refine tri_block ?_
    refine tri_loop (ι := Nat) (fun i => [(1, T.p 10 0), (3, T.c (.int .i64 (i : Int)))]) (fun i => [(10, some (Ent.box 39 [T.l (cZi k) D, T.l (cL (cZi k)) L, T.l (cQi k) ts, T.Zi a k, T.Zi b k]))]) (fun i => ts.length - i) (fun i => (i ≤ w)) 0 (Nat.zero_le _) (sl 1 rfl (sl 3 rfl sn)) (el 10 rfl en) ?_
    rintro i hi
    refine tri_sub (sl 1 rfl (sl 3 rfl sn)) (el 10 rfl en) ?_
    refine tri_seq ?_
    refine tri_seq ?_
    refine tri_reg mixed hcx ?_ _ _
    refine mv rfl ?_
    refine fa rfl fTrT 2 ?_
    refine ld rfl rfl tyQs rfl ?_
    refine ln slQs rfl ?_
    refine clt rfl rfl (decide_eq_true (by omega)) ?_
    refine ⟨by kernel_rfl, ?_⟩
    refine nx (sl 1 rfl (sl 3 rfl (sl 35 rfl sn))) (el 10 rfl en) ?_
    refine tri_true rfl rfl ?_
    refine tri_skip ?_
    refine nx (sl 1 rfl (sl 3 rfl sn)) (el 10 rfl en) ?_
    refine tri_seq ?_
    refine tri_block ?_
    refine tri_seq ?_
    rcases Nat.lt_or_eq_of_le hi with hlt | heq
    · have hp : 0 < (ts.getD i (cQi k).dflt).2 := hw2 i hlt
      refine tri_reg mixed hcx ?_ _ _
      refine fa rfl fTrT 2 ?_
      refine ld rfl rfl tyQs rfl ?_
      refine mv rfl ?_
      refine ix rfl rfl slQs ⟨rfl, by omega⟩ ?_
      refine lf rfl tyQ ?_
      refine ca rfl (h := r03_ValidG (a := (ts.getD i (cQi k).dflt).1) (b := (ts.getD i (cQi k).dflt).2) (k := k) (q := true) (iff_of_true rfl hp) (by omega)) (hn := ?_)
      refine nt rfl _ rfl ?_
      refine ⟨by kernel_rfl, ?_⟩
      refine nx (sl 1 rfl (sl 3 rfl (sl 44 rfl sn))) (el 10 rfl en) ?_
      refine tri_false rfl rfl ?_
      refine tri_skip ?_
      refine pn_blk ?_
      refine nx (sl 1 rfl (sl 3 rfl sn)) (el 10 rfl en) ?_
      refine tri_reg mixed hcx ?_ _ _
      refine mv rfl ?_
      refine ad (((i + 1 : Nat) : Int)) rfl rfl rfl (by omega) ?_
      refine asg rfl ?_
      refine ⟨by kernel_rfl, ?_⟩
      exact pn_back (i + 1) (by first | omega | (dsimp only; omega)) (by omega) (sl 1 rfl (sl 3 rfl sn)) (el 10 rfl en)
    · have hp : ¬ 0 < (ts.getD i (cQi k).dflt).2 := by rw [heq]; exact hw1
      refine tri_reg mixed hcx ?_ _ _
      refine fa rfl fTrT 2 ?_
      refine ld rfl rfl tyQs rfl ?_
      refine mv rfl ?_
      refine ix rfl rfl slQs ⟨rfl, by omega⟩ ?_
      refine lf rfl tyQ ?_
      refine ca rfl (h := r03_ValidG (a := (ts.getD i (cQi k).dflt).1) (b := (ts.getD i (cQi k).dflt).2) (k := k) (q := false) (iff_of_false Bool.false_ne_true hp) (by omega)) (hn := ?_)
      refine nt rfl _ rfl ?_
      refine ⟨by kernel_rfl, ?_⟩
      refine nx (sl 1 rfl (sl 3 rfl (sl 44 rfl sn))) (el 10 rfl en) ?_
      refine tri_true rfl rfl ?_
      refine tri_seq ?_
      refine tri_reg mixed hcx ?_ _ _
      refine asg rfl ?_
      refine ⟨by kernel_rfl, ?_⟩
      refine nx (sl 2 rfl sn) (el 10 rfl en) ?_
      refine tri_ret ?_
      repeat (first | refine pn_thenr ?_ | refine pn_blkr ?_)
      exact ret1 hcx rfl (rv_tmp rfl) (.refl _) en

theorem r11_Valid5 {D : List Int} {L : List (List Int)} {ts : List (Int × Int)} {a b : Int} {k : Nat} (hk : k ≤ 16777216) (hLl : L.length ≤ 1048576) (hDl : D.length ≤ 1048576) (htl : ts.length ≤ 1048576) (hG : GoodP D L) (hn : L.length ≤ 12) (ht : ts.length = 0 ∨ ts.length = L.length) (hd : ∀ i, i < ts.length → 0 < (ts.getD i (0, 0)).2) (hb : ¬ 0 < b) : Fn Tryz.prog 21 [T.Tr D L ts a b k] [] [] [] (T.c (.bool false)) := by
  refine fn_of Tryz.func21 rfl (by show 1 ≤ 55; decide) fun cx hcx => ?_
  refine tri_sub (sl 0 rfl sn) en ?_
  refine tri_seq ?_
  refine tri_reg mixed hcx ?_ _ _
  refine bxs 10 rfl ?_
  refine asg rfl ?_
  refine ⟨by kernel_rfl, ?_⟩
  refine nx (sl 1 rfl sn) (el 10 rfl en) ?_
  refine tri_seq ?_
  refine tri_seq ?_
  by_cases htz : ts.length = 0
  · refine tri_reg mixed hcx ?_ _ _
    refine fa rfl fTrG 0 ?_
    refine ld rfl rfl tyG rfl ?_
    refine ca rfl (h := r05_Good (q := true) (by simp [hG]) (by omega) (by omega) (by omega)) (hn := ?_)
    refine nt rfl _ rfl ?_
    refine mv rfl ?_
    refine fa rfl fTrG 0 ?_ (hg := gd1)
    refine fa rfl fL 1 ?_ (hg := gd1)
    refine ld rfl rfl tyZss rfl ?_ (hg := gd1)
    refine ln slZss rfl ?_ (hg := gd1)
    refine cgt rfl rfl (decide_eq_false (by omega)) ?_ (hg := gd1)
    refine pk rfl rfl ?_
    refine mv rfl ?_
    refine fa rfl fTrT 2 ?_ (hg := gd1)
    refine ld rfl rfl tyQs rfl ?_ (hg := gd1)
    refine ln slQs rfl ?_ (hg := gd1)
    refine cne rfl rfl (decide_eq_false (by omega)) ?_ (hg := gd1)
    refine mv rfl ?_ (hg := gd1)
    refine j_off rfl rfl rfl rfl ?_
    refine j_off rfl rfl rfl rfl ?_
    refine j_off rfl rfl rfl rfl ?_
    refine j_off rfl rfl rfl rfl ?_
    refine j_off rfl rfl rfl rfl ?_
    refine j_off rfl rfl rfl rfl ?_
    refine j_off rfl rfl rfl rfl ?_
    refine j_off rfl rfl rfl rfl ?_
    refine pk rfl rfl ?_ (hg := gd1)
    refine pk rfl rfl ?_
    refine ⟨by kernel_rfl, ?_⟩
    refine nx (sl 1 rfl (sl 30 rfl sn)) (el 10 rfl en) ?_
    refine tri_false rfl rfl ?_
    refine tri_skip ?_
    refine nx (sl 1 rfl sn) (el 10 rfl en) ?_
    refine tri_seq ?_
    refine tri_seq ?_
    refine tri_reg mixed hcx ?_ _ _
    refine asg rfl ?_
    refine ⟨by kernel_rfl, ?_⟩
    refine nx (sl 1 rfl (sl 3 rfl sn)) (el 10 rfl en) ?_
    refine tri_block ?_
    refine tri_loop (ι := Nat) (fun i => [(1, T.p 10 0), (3, T.c (.int .i64 (i : Int)))]) (fun i => [(10, some (Ent.box 39 [T.l (cZi k) D, T.l (cL (cZi k)) L, T.l (cQi k) ts, T.Zi a k, T.Zi b k]))]) (fun i => ts.length - i) (fun i => (i ≤ ts.length)) 0 (Nat.zero_le _) (sl 1 rfl (sl 3 rfl sn)) (el 10 rfl en) ?_
    rintro i hi
    refine tri_sub (sl 1 rfl (sl 3 rfl sn)) (el 10 rfl en) ?_
    refine tri_seq ?_
    refine tri_seq ?_
    refine tri_reg mixed hcx ?_ _ _
    refine mv rfl ?_
    refine fa rfl fTrT 2 ?_
    refine ld rfl rfl tyQs rfl ?_
    refine ln slQs rfl ?_
    refine clt rfl rfl rfl ?_
    refine ⟨by kernel_rfl, ?_⟩
    refine nx (sl 1 rfl (sl 3 rfl (sl 35 rfl sn))) (el 10 rfl en) ?_
    refine tri_if rfl (fun hc => ?_) (fun hc => ?_)
    · have hp : 0 < (ts.getD i (cQi k).dflt).2 := hd i (by omega)
      refine tri_skip ?_
      refine nx (sl 1 rfl (sl 3 rfl sn)) (el 10 rfl en) ?_
      refine tri_seq ?_
      refine tri_block ?_
      refine tri_seq ?_
      refine tri_reg mixed hcx ?_ _ _
      refine fa rfl fTrT 2 ?_
      refine ld rfl rfl tyQs rfl ?_
      refine mv rfl ?_
      refine ix rfl rfl slQs ⟨rfl, by omega⟩ ?_
      refine lf rfl tyQ ?_
      refine ca rfl (h := r03_ValidG (a := (ts.getD i (cQi k).dflt).1) (b := (ts.getD i (cQi k).dflt).2) (k := k) (q := true) (iff_of_true rfl hp) (by omega)) (hn := ?_)
      refine nt rfl _ rfl ?_
      refine ⟨by kernel_rfl, ?_⟩
      refine nx (sl 1 rfl (sl 3 rfl (sl 44 rfl sn))) (el 10 rfl en) ?_
      refine tri_false rfl rfl ?_
      refine tri_skip ?_
      refine pn_blk ?_
      refine nx (sl 1 rfl (sl 3 rfl sn)) (el 10 rfl en) ?_
      refine tri_reg mixed hcx ?_ _ _
      refine mv rfl ?_
      refine ad (((i + 1 : Nat) : Int)) rfl rfl rfl (by omega) ?_
      refine asg rfl ?_
      refine ⟨by kernel_rfl, ?_⟩
      exact pn_back (i + 1) (by first | omega | (dsimp only; omega)) (by omega) (sl 1 rfl (sl 3 rfl sn)) (el 10 rfl en)
    · refine tri_exit ?_
      repeat (first | refine pn_then ?_ | refine pn_oth (by decide) ?_)
      refine pn_ex ?_
      refine nx (sl 1 rfl sn) (el 10 rfl en) ?_
      refine tri_seq ?_
      refine tri_reg mixed hcx ?_ _ _
      refine fa rfl fTrR 3 ?_
      refine ld rfl rfl tyQ rfl ?_
      refine ca rfl (h := r03_ValidG (q := false) (by simp [hb]) (by omega)) (hn := ?_)
      refine mv rfl ?_
      refine j_off rfl rfl rfl rfl ?_
      refine j_off rfl rfl rfl rfl ?_
      refine j_off rfl rfl rfl rfl ?_
      refine j_off rfl rfl rfl rfl ?_
      refine j_off rfl rfl rfl rfl ?_
      refine pk rfl rfl ?_
      refine asg rfl ?_
      refine ⟨by kernel_rfl, ?_⟩
      refine nx (sl 2 rfl sn) (el 10 rfl en) ?_
      refine tri_ret ?_
      repeat (first | refine pn_thenr ?_ | refine pn_blkr ?_)
      exact ret1 hcx rfl (rv_tmp rfl) (.refl _) en
  · have htn : ts.length = L.length := by rcases ht with h | h <;> omega
    refine tri_reg mixed hcx ?_ _ _
    refine fa rfl fTrG 0 ?_
    refine ld rfl rfl tyG rfl ?_
    refine ca rfl (h := r05_Good (q := true) (by simp [hG]) (by omega) (by omega) (by omega)) (hn := ?_)
    refine nt rfl _ rfl ?_
    refine mv rfl ?_
    refine fa rfl fTrG 0 ?_ (hg := gd1)
    refine fa rfl fL 1 ?_ (hg := gd1)
    refine ld rfl rfl tyZss rfl ?_ (hg := gd1)
    refine ln slZss rfl ?_ (hg := gd1)
    refine cgt rfl rfl (decide_eq_false (by omega)) ?_ (hg := gd1)
    refine pk rfl rfl ?_
    refine mv rfl ?_
    refine fa rfl fTrT 2 ?_ (hg := gd1)
    refine ld rfl rfl tyQs rfl ?_ (hg := gd1)
    refine ln slQs rfl ?_ (hg := gd1)
    refine cne rfl rfl (decide_eq_true (by omega)) ?_ (hg := gd1)
    refine mv rfl ?_ (hg := gd1)
    refine fa rfl fTrT 2 ?_ (hg := gd1)
    refine ld rfl rfl tyQs rfl ?_ (hg := gd1)
    refine ln slQs rfl ?_ (hg := gd1)
    refine fa rfl fTrG 0 ?_ (hg := gd1)
    refine fa rfl fL 1 ?_ (hg := gd1)
    refine ld rfl rfl tyZss rfl ?_ (hg := gd1)
    refine ln slZss rfl ?_ (hg := gd1)
    refine cne rfl rfl (decide_eq_false (by omega)) ?_ (hg := gd1)
    refine pk rfl rfl ?_ (hg := gd1)
    refine pk rfl rfl ?_
    refine ⟨by kernel_rfl, ?_⟩
    refine nx (sl 1 rfl (sl 30 rfl sn)) (el 10 rfl en) ?_
    refine tri_false rfl rfl ?_
    refine tri_skip ?_
    refine nx (sl 1 rfl sn) (el 10 rfl en) ?_
    refine tri_seq ?_
    refine tri_seq ?_
    refine tri_reg mixed hcx ?_ _ _
    refine asg rfl ?_
    refine ⟨by kernel_rfl, ?_⟩
    refine nx (sl 1 rfl (sl 3 rfl sn)) (el 10 rfl en) ?_
    refine tri_block ?_
    refine tri_loop (ι := Nat) (fun i => [(1, T.p 10 0), (3, T.c (.int .i64 (i : Int)))]) (fun i => [(10, some (Ent.box 39 [T.l (cZi k) D, T.l (cL (cZi k)) L, T.l (cQi k) ts, T.Zi a k, T.Zi b k]))]) (fun i => ts.length - i) (fun i => (i ≤ ts.length)) 0 (Nat.zero_le _) (sl 1 rfl (sl 3 rfl sn)) (el 10 rfl en) ?_
    rintro i hi
    refine tri_sub (sl 1 rfl (sl 3 rfl sn)) (el 10 rfl en) ?_
    refine tri_seq ?_
    refine tri_seq ?_
    refine tri_reg mixed hcx ?_ _ _
    refine mv rfl ?_
    refine fa rfl fTrT 2 ?_
    refine ld rfl rfl tyQs rfl ?_
    refine ln slQs rfl ?_
    refine clt rfl rfl rfl ?_
    refine ⟨by kernel_rfl, ?_⟩
    refine nx (sl 1 rfl (sl 3 rfl (sl 35 rfl sn))) (el 10 rfl en) ?_
    refine tri_if rfl (fun hc => ?_) (fun hc => ?_)
    · have hp : 0 < (ts.getD i (cQi k).dflt).2 := hd i (by omega)
      refine tri_skip ?_
      refine nx (sl 1 rfl (sl 3 rfl sn)) (el 10 rfl en) ?_
      refine tri_seq ?_
      refine tri_block ?_
      refine tri_seq ?_
      refine tri_reg mixed hcx ?_ _ _
      refine fa rfl fTrT 2 ?_
      refine ld rfl rfl tyQs rfl ?_
      refine mv rfl ?_
      refine ix rfl rfl slQs ⟨rfl, by omega⟩ ?_
      refine lf rfl tyQ ?_
      refine ca rfl (h := r03_ValidG (a := (ts.getD i (cQi k).dflt).1) (b := (ts.getD i (cQi k).dflt).2) (k := k) (q := true) (iff_of_true rfl hp) (by omega)) (hn := ?_)
      refine nt rfl _ rfl ?_
      refine ⟨by kernel_rfl, ?_⟩
      refine nx (sl 1 rfl (sl 3 rfl (sl 44 rfl sn))) (el 10 rfl en) ?_
      refine tri_false rfl rfl ?_
      refine tri_skip ?_
      refine pn_blk ?_
      refine nx (sl 1 rfl (sl 3 rfl sn)) (el 10 rfl en) ?_
      refine tri_reg mixed hcx ?_ _ _
      refine mv rfl ?_
      refine ad (((i + 1 : Nat) : Int)) rfl rfl rfl (by omega) ?_
      refine asg rfl ?_
      refine ⟨by kernel_rfl, ?_⟩
      exact pn_back (i + 1) (by first | omega | (dsimp only; omega)) (by omega) (sl 1 rfl (sl 3 rfl sn)) (el 10 rfl en)
    · refine tri_exit ?_
      repeat (first | refine pn_then ?_ | refine pn_oth (by decide) ?_)
      refine pn_ex ?_
      refine nx (sl 1 rfl sn) (el 10 rfl en) ?_
      refine tri_seq ?_
      refine tri_reg mixed hcx ?_ _ _
      refine fa rfl fTrR 3 ?_
      refine ld rfl rfl tyQ rfl ?_
      refine ca rfl (h := r03_ValidG (q := false) (by simp [hb]) (by omega)) (hn := ?_)
      refine mv rfl ?_
      refine j_off rfl rfl rfl rfl ?_
      refine j_off rfl rfl rfl rfl ?_
      refine j_off rfl rfl rfl rfl ?_
      refine j_off rfl rfl rfl rfl ?_
      refine j_off rfl rfl rfl rfl ?_
      refine pk rfl rfl ?_
      refine asg rfl ?_
      refine ⟨by kernel_rfl, ?_⟩
      refine nx (sl 2 rfl sn) (el 10 rfl en) ?_
      refine tri_ret ?_
      repeat (first | refine pn_thenr ?_ | refine pn_blkr ?_)
      exact ret1 hcx rfl (rv_tmp rfl) (.refl _) en

theorem r11_Valid6 {D : List Int} {L : List (List Int)} {ts : List (Int × Int)} {a b : Int} {k : Nat} (hk : k ≤ 16777216) (hLl : L.length ≤ 1048576) (hDl : D.length ≤ 1048576) (htl : ts.length ≤ 1048576) (hG : GoodP D L) (hn : L.length ≤ 12) (ht : ts.length = 0 ∨ ts.length = L.length) (hd : ∀ i, i < ts.length → 0 < (ts.getD i (0, 0)).2) (hb : 0 < b) (ha : ¬ 0 ≤ a) : Fn Tryz.prog 21 [T.Tr D L ts a b k] [] [] [] (T.c (.bool false)) := by
  refine fn_of Tryz.func21 rfl (by show 1 ≤ 55; decide) fun cx hcx => ?_
  refine tri_sub (sl 0 rfl sn) en ?_
  have hsa : sg a = -1 := sg_neg (by omega)
  refine tri_seq ?_
  refine tri_reg mixed hcx ?_ _ _
  refine bxs 10 rfl ?_
  refine asg rfl ?_
  refine ⟨by kernel_rfl, ?_⟩
  refine nx (sl 1 rfl sn) (el 10 rfl en) ?_
  refine tri_seq ?_
  refine tri_seq ?_
  by_cases htz : ts.length = 0
  · refine tri_reg mixed hcx ?_ _ _
    refine fa rfl fTrG 0 ?_
    refine ld rfl rfl tyG rfl ?_
    refine ca rfl (h := r05_Good (q := true) (by simp [hG]) (by omega) (by omega) (by omega)) (hn := ?_)
    refine nt rfl _ rfl ?_
    refine mv rfl ?_
    refine fa rfl fTrG 0 ?_ (hg := gd1)
    refine fa rfl fL 1 ?_ (hg := gd1)
    refine ld rfl rfl tyZss rfl ?_ (hg := gd1)
    refine ln slZss rfl ?_ (hg := gd1)
    refine cgt rfl rfl (decide_eq_false (by omega)) ?_ (hg := gd1)
    refine pk rfl rfl ?_
    refine mv rfl ?_
    refine fa rfl fTrT 2 ?_ (hg := gd1)
    refine ld rfl rfl tyQs rfl ?_ (hg := gd1)
    refine ln slQs rfl ?_ (hg := gd1)
    refine cne rfl rfl (decide_eq_false (by omega)) ?_ (hg := gd1)
    refine mv rfl ?_ (hg := gd1)
    refine j_off rfl rfl rfl rfl ?_
    refine j_off rfl rfl rfl rfl ?_
    refine j_off rfl rfl rfl rfl ?_
    refine j_off rfl rfl rfl rfl ?_
    refine j_off rfl rfl rfl rfl ?_
    refine j_off rfl rfl rfl rfl ?_
    refine j_off rfl rfl rfl rfl ?_
    refine j_off rfl rfl rfl rfl ?_
    refine pk rfl rfl ?_ (hg := gd1)
    refine pk rfl rfl ?_
    refine ⟨by kernel_rfl, ?_⟩
    refine nx (sl 1 rfl (sl 30 rfl sn)) (el 10 rfl en) ?_
    refine tri_false rfl rfl ?_
    refine tri_skip ?_
    refine nx (sl 1 rfl sn) (el 10 rfl en) ?_
    refine tri_seq ?_
    refine tri_seq ?_
    refine tri_reg mixed hcx ?_ _ _
    refine asg rfl ?_
    refine ⟨by kernel_rfl, ?_⟩
    refine nx (sl 1 rfl (sl 3 rfl sn)) (el 10 rfl en) ?_
    refine tri_block ?_
    refine tri_loop (ι := Nat) (fun i => [(1, T.p 10 0), (3, T.c (.int .i64 (i : Int)))]) (fun i => [(10, some (Ent.box 39 [T.l (cZi k) D, T.l (cL (cZi k)) L, T.l (cQi k) ts, T.Zi a k, T.Zi b k]))]) (fun i => ts.length - i) (fun i => (i ≤ ts.length)) 0 (Nat.zero_le _) (sl 1 rfl (sl 3 rfl sn)) (el 10 rfl en) ?_
    rintro i hi
    refine tri_sub (sl 1 rfl (sl 3 rfl sn)) (el 10 rfl en) ?_
    refine tri_seq ?_
    refine tri_seq ?_
    refine tri_reg mixed hcx ?_ _ _
    refine mv rfl ?_
    refine fa rfl fTrT 2 ?_
    refine ld rfl rfl tyQs rfl ?_
    refine ln slQs rfl ?_
    refine clt rfl rfl rfl ?_
    refine ⟨by kernel_rfl, ?_⟩
    refine nx (sl 1 rfl (sl 3 rfl (sl 35 rfl sn))) (el 10 rfl en) ?_
    refine tri_if rfl (fun hc => ?_) (fun hc => ?_)
    · have hp : 0 < (ts.getD i (cQi k).dflt).2 := hd i (by omega)
      refine tri_skip ?_
      refine nx (sl 1 rfl (sl 3 rfl sn)) (el 10 rfl en) ?_
      refine tri_seq ?_
      refine tri_block ?_
      refine tri_seq ?_
      refine tri_reg mixed hcx ?_ _ _
      refine fa rfl fTrT 2 ?_
      refine ld rfl rfl tyQs rfl ?_
      refine mv rfl ?_
      refine ix rfl rfl slQs ⟨rfl, by omega⟩ ?_
      refine lf rfl tyQ ?_
      refine ca rfl (h := r03_ValidG (a := (ts.getD i (cQi k).dflt).1) (b := (ts.getD i (cQi k).dflt).2) (k := k) (q := true) (iff_of_true rfl hp) (by omega)) (hn := ?_)
      refine nt rfl _ rfl ?_
      refine ⟨by kernel_rfl, ?_⟩
      refine nx (sl 1 rfl (sl 3 rfl (sl 44 rfl sn))) (el 10 rfl en) ?_
      refine tri_false rfl rfl ?_
      refine tri_skip ?_
      refine pn_blk ?_
      refine nx (sl 1 rfl (sl 3 rfl sn)) (el 10 rfl en) ?_
      refine tri_reg mixed hcx ?_ _ _
      refine mv rfl ?_
      refine ad (((i + 1 : Nat) : Int)) rfl rfl rfl (by omega) ?_
      refine asg rfl ?_
      refine ⟨by kernel_rfl, ?_⟩
      exact pn_back (i + 1) (by first | omega | (dsimp only; omega)) (by omega) (sl 1 rfl (sl 3 rfl sn)) (el 10 rfl en)
    · refine tri_exit ?_
      repeat (first | refine pn_then ?_ | refine pn_oth (by decide) ?_)
      refine pn_ex ?_
      refine nx (sl 1 rfl sn) (el 10 rfl en) ?_
      refine tri_seq ?_
      refine tri_reg mixed hcx ?_ _ _
      refine fa rfl fTrR 3 ?_
      refine ld rfl rfl tyQ rfl ?_
      refine ca rfl (h := r03_ValidG (q := true) (by simp [hb]) (by omega)) (hn := ?_)
      refine mv rfl ?_
      refine fa rfl fTrR 3 ?_ (hg := gd1)
      refine fa rfl fNum 3 ?_ (hg := gd1)
      refine ld rfl rfl tyZ rfl ?_ (hg := gd1)
      refine ca rfl (h := r02_Sign (by omega)) (hn := ?_) (hg := gd1)
      refine cge rfl rfl (decide_eq_false (by omega)) ?_ (hg := gd1)
      refine pk rfl rfl ?_
      refine asg rfl ?_
      refine ⟨by kernel_rfl, ?_⟩
      refine nx (sl 2 rfl sn) (el 10 rfl en) ?_
      refine tri_ret ?_
      repeat (first | refine pn_thenr ?_ | refine pn_blkr ?_)
      exact ret1 hcx rfl (rv_tmp rfl) (.refl _) en
  · have htn : ts.length = L.length := by rcases ht with h | h <;> omega
    refine tri_reg mixed hcx ?_ _ _
    refine fa rfl fTrG 0 ?_
    refine ld rfl rfl tyG rfl ?_
    refine ca rfl (h := r05_Good (q := true) (by simp [hG]) (by omega) (by omega) (by omega)) (hn := ?_)
    refine nt rfl _ rfl ?_
    refine mv rfl ?_
    refine fa rfl fTrG 0 ?_ (hg := gd1)
    refine fa rfl fL 1 ?_ (hg := gd1)
    refine ld rfl rfl tyZss rfl ?_ (hg := gd1)
    refine ln slZss rfl ?_ (hg := gd1)
    refine cgt rfl rfl (decide_eq_false (by omega)) ?_ (hg := gd1)
    refine pk rfl rfl ?_
    refine mv rfl ?_
    refine fa rfl fTrT 2 ?_ (hg := gd1)
    refine ld rfl rfl tyQs rfl ?_ (hg := gd1)
    refine ln slQs rfl ?_ (hg := gd1)
    refine cne rfl rfl (decide_eq_true (by omega)) ?_ (hg := gd1)
    refine mv rfl ?_ (hg := gd1)
    refine fa rfl fTrT 2 ?_ (hg := gd1)
    refine ld rfl rfl tyQs rfl ?_ (hg := gd1)
    refine ln slQs rfl ?_ (hg := gd1)
    refine fa rfl fTrG 0 ?_ (hg := gd1)
    refine fa rfl fL 1 ?_ (hg := gd1)
    refine ld rfl rfl tyZss rfl ?_ (hg := gd1)
    refine ln slZss rfl ?_ (hg := gd1)
    refine cne rfl rfl (decide_eq_false (by omega)) ?_ (hg := gd1)
    refine pk rfl rfl ?_ (hg := gd1)
    refine pk rfl rfl ?_
    refine ⟨by kernel_rfl, ?_⟩
    refine nx (sl 1 rfl (sl 30 rfl sn)) (el 10 rfl en) ?_
    refine tri_false rfl rfl ?_
    refine tri_skip ?_
    refine nx (sl 1 rfl sn) (el 10 rfl en) ?_
    refine tri_seq ?_
    refine tri_seq ?_
    refine tri_reg mixed hcx ?_ _ _
    refine asg rfl ?_
    refine ⟨by kernel_rfl, ?_⟩
    refine nx (sl 1 rfl (sl 3 rfl sn)) (el 10 rfl en) ?_
    refine tri_block ?_
    refine tri_loop (ι := Nat) (fun i => [(1, T.p 10 0), (3, T.c (.int .i64 (i : Int)))]) (fun i => [(10, some (Ent.box 39 [T.l (cZi k) D, T.l (cL (cZi k)) L, T.l (cQi k) ts, T.Zi a k, T.Zi b k]))]) (fun i => ts.length - i) (fun i => (i ≤ ts.length)) 0 (Nat.zero_le _) (sl 1 rfl (sl 3 rfl sn)) (el 10 rfl en) ?_
    rintro i hi
    refine tri_sub (sl 1 rfl (sl 3 rfl sn)) (el 10 rfl en) ?_
    refine tri_seq ?_
    refine tri_seq ?_
    refine tri_reg mixed hcx ?_ _ _
    refine mv rfl ?_
    refine fa rfl fTrT 2 ?_
    refine ld rfl rfl tyQs rfl ?_
    refine ln slQs rfl ?_
    refine clt rfl rfl rfl ?_
    refine ⟨by kernel_rfl, ?_⟩
    refine nx (sl 1 rfl (sl 3 rfl (sl 35 rfl sn))) (el 10 rfl en) ?_
    refine tri_if rfl (fun hc => ?_) (fun hc => ?_)
    · have hp : 0 < (ts.getD i (cQi k).dflt).2 := hd i (by omega)
      refine tri_skip ?_
      refine nx (sl 1 rfl (sl 3 rfl sn)) (el 10 rfl en) ?_
      refine tri_seq ?_
      refine tri_block ?_
      refine tri_seq ?_
      refine tri_reg mixed hcx ?_ _ _
      refine fa rfl fTrT 2 ?_
      refine ld rfl rfl tyQs rfl ?_
      refine mv rfl ?_
      refine ix rfl rfl slQs ⟨rfl, by omega⟩ ?_
      refine lf rfl tyQ ?_
      refine ca rfl (h := r03_ValidG (a := (ts.getD i (cQi k).dflt).1) (b := (ts.getD i (cQi k).dflt).2) (k := k) (q := true) (iff_of_true rfl hp) (by omega)) (hn := ?_)
      refine nt rfl _ rfl ?_
      refine ⟨by kernel_rfl, ?_⟩
      refine nx (sl 1 rfl (sl 3 rfl (sl 44 rfl sn))) (el 10 rfl en) ?_
      refine tri_false rfl rfl ?_
      refine tri_skip ?_
      refine pn_blk ?_
      refine nx (sl 1 rfl (sl 3 rfl sn)) (el 10 rfl en) ?_
      refine tri_reg mixed hcx ?_ _ _
      refine mv rfl ?_
      refine ad (((i + 1 : Nat) : Int)) rfl rfl rfl (by omega) ?_
      refine asg rfl ?_
      refine ⟨by kernel_rfl, ?_⟩
      exact pn_back (i + 1) (by first | omega | (dsimp only; omega)) (by omega) (sl 1 rfl (sl 3 rfl sn)) (el 10 rfl en)
    · refine tri_exit ?_
      repeat (first | refine pn_then ?_ | refine pn_oth (by decide) ?_)
      refine pn_ex ?_
      refine nx (sl 1 rfl sn) (el 10 rfl en) ?_
      refine tri_seq ?_
      refine tri_reg mixed hcx ?_ _ _
      refine fa rfl fTrR 3 ?_
      refine ld rfl rfl tyQ rfl ?_
      refine ca rfl (h := r03_ValidG (q := true) (by simp [hb]) (by omega)) (hn := ?_)
      refine mv rfl ?_
      refine fa rfl fTrR 3 ?_ (hg := gd1)
      refine fa rfl fNum 3 ?_ (hg := gd1)
      refine ld rfl rfl tyZ rfl ?_ (hg := gd1)
      refine ca rfl (h := r02_Sign (by omega)) (hn := ?_) (hg := gd1)
      refine cge rfl rfl (decide_eq_false (by omega)) ?_ (hg := gd1)
      refine pk rfl rfl ?_
      refine asg rfl ?_
      refine ⟨by kernel_rfl, ?_⟩
      refine nx (sl 2 rfl sn) (el 10 rfl en) ?_
      refine tri_ret ?_
      repeat (first | refine pn_thenr ?_ | refine pn_blkr ?_)
      exact ret1 hcx rfl (rv_tmp rfl) (.refl _) en

theorem r11_Valid7 {D : List Int} {L : List (List Int)} {ts : List (Int × Int)} {a b : Int} {k : Nat} (hk : k ≤ 16777216) (hLl : L.length ≤ 1048576) (hDl : D.length ≤ 1048576) (htl : ts.length ≤ 1048576) (hG : GoodP D L) (hn : L.length ≤ 12) (ht : ts.length = 0 ∨ ts.length = L.length) (hd : ∀ i, i < ts.length → 0 < (ts.getD i (0, 0)).2) (hb : 0 < b) (ha : 0 ≤ a) : Fn Tryz.prog 21 [T.Tr D L ts a b k] [] [] [] (T.c (.bool true)) := by
  refine fn_of Tryz.func21 rfl (by show 1 ≤ 55; decide) fun cx hcx => ?_
  refine tri_sub (sl 0 rfl sn) en ?_
  have hsa : 0 ≤ sg a := sg_nn ha
  refine tri_seq ?_
  refine tri_reg mixed hcx ?_ _ _
  refine bxs 10 rfl ?_
  refine asg rfl ?_
  refine ⟨by kernel_rfl, ?_⟩
  refine nx (sl 1 rfl sn) (el 10 rfl en) ?_
  refine tri_seq ?_
  refine tri_seq ?_
  by_cases htz : ts.length = 0
  · refine tri_reg mixed hcx ?_ _ _
    refine fa rfl fTrG 0 ?_
    refine ld rfl rfl tyG rfl ?_
    refine ca rfl (h := r05_Good (q := true) (by simp [hG]) (by omega) (by omega) (by omega)) (hn := ?_)
    refine nt rfl _ rfl ?_
    refine mv rfl ?_
    refine fa rfl fTrG 0 ?_ (hg := gd1)
    refine fa rfl fL 1 ?_ (hg := gd1)
    refine ld rfl rfl tyZss rfl ?_ (hg := gd1)
    refine ln slZss rfl ?_ (hg := gd1)
    refine cgt rfl rfl (decide_eq_false (by omega)) ?_ (hg := gd1)
    refine pk rfl rfl ?_
    refine mv rfl ?_
    refine fa rfl fTrT 2 ?_ (hg := gd1)
    refine ld rfl rfl tyQs rfl ?_ (hg := gd1)
    refine ln slQs rfl ?_ (hg := gd1)
    refine cne rfl rfl (decide_eq_false (by omega)) ?_ (hg := gd1)
    refine mv rfl ?_ (hg := gd1)
    refine j_off rfl rfl rfl rfl ?_
    refine j_off rfl rfl rfl rfl ?_
    refine j_off rfl rfl rfl rfl ?_
    refine j_off rfl rfl rfl rfl ?_
    refine j_off rfl rfl rfl rfl ?_
    refine j_off rfl rfl rfl rfl ?_
    refine j_off rfl rfl rfl rfl ?_
    refine j_off rfl rfl rfl rfl ?_
    refine pk rfl rfl ?_ (hg := gd1)
    refine pk rfl rfl ?_
    refine ⟨by kernel_rfl, ?_⟩
    refine nx (sl 1 rfl (sl 30 rfl sn)) (el 10 rfl en) ?_
    refine tri_false rfl rfl ?_
    refine tri_skip ?_
    refine nx (sl 1 rfl sn) (el 10 rfl en) ?_
    refine tri_seq ?_
    refine tri_seq ?_
    refine tri_reg mixed hcx ?_ _ _
    refine asg rfl ?_
    refine ⟨by kernel_rfl, ?_⟩
    refine nx (sl 1 rfl (sl 3 rfl sn)) (el 10 rfl en) ?_
    refine tri_block ?_
    refine tri_loop (ι := Nat) (fun i => [(1, T.p 10 0), (3, T.c (.int .i64 (i : Int)))]) (fun i => [(10, some (Ent.box 39 [T.l (cZi k) D, T.l (cL (cZi k)) L, T.l (cQi k) ts, T.Zi a k, T.Zi b k]))]) (fun i => ts.length - i) (fun i => (i ≤ ts.length)) 0 (Nat.zero_le _) (sl 1 rfl (sl 3 rfl sn)) (el 10 rfl en) ?_
    rintro i hi
    refine tri_sub (sl 1 rfl (sl 3 rfl sn)) (el 10 rfl en) ?_
    refine tri_seq ?_
    refine tri_seq ?_
    refine tri_reg mixed hcx ?_ _ _
    refine mv rfl ?_
    refine fa rfl fTrT 2 ?_
    refine ld rfl rfl tyQs rfl ?_
    refine ln slQs rfl ?_
    refine clt rfl rfl rfl ?_
    refine ⟨by kernel_rfl, ?_⟩
    refine nx (sl 1 rfl (sl 3 rfl (sl 35 rfl sn))) (el 10 rfl en) ?_
    refine tri_if rfl (fun hc => ?_) (fun hc => ?_)
    · have hp : 0 < (ts.getD i (cQi k).dflt).2 := hd i (by omega)
      refine tri_skip ?_
      refine nx (sl 1 rfl (sl 3 rfl sn)) (el 10 rfl en) ?_
      refine tri_seq ?_
      refine tri_block ?_
      refine tri_seq ?_
      refine tri_reg mixed hcx ?_ _ _
      refine fa rfl fTrT 2 ?_
      refine ld rfl rfl tyQs rfl ?_
      refine mv rfl ?_
      refine ix rfl rfl slQs ⟨rfl, by omega⟩ ?_
      refine lf rfl tyQ ?_
      refine ca rfl (h := r03_ValidG (a := (ts.getD i (cQi k).dflt).1) (b := (ts.getD i (cQi k).dflt).2) (k := k) (q := true) (iff_of_true rfl hp) (by omega)) (hn := ?_)
      refine nt rfl _ rfl ?_
      refine ⟨by kernel_rfl, ?_⟩
      refine nx (sl 1 rfl (sl 3 rfl (sl 44 rfl sn))) (el 10 rfl en) ?_
      refine tri_false rfl rfl ?_
      refine tri_skip ?_
      refine pn_blk ?_
      refine nx (sl 1 rfl (sl 3 rfl sn)) (el 10 rfl en) ?_
      refine tri_reg mixed hcx ?_ _ _
      refine mv rfl ?_
      refine ad (((i + 1 : Nat) : Int)) rfl rfl rfl (by omega) ?_
      refine asg rfl ?_
      refine ⟨by kernel_rfl, ?_⟩
      exact pn_back (i + 1) (by first | omega | (dsimp only; omega)) (by omega) (sl 1 rfl (sl 3 rfl sn)) (el 10 rfl en)
    · refine tri_exit ?_
      repeat (first | refine pn_then ?_ | refine pn_oth (by decide) ?_)
      refine pn_ex ?_
      refine nx (sl 1 rfl sn) (el 10 rfl en) ?_
      refine tri_seq ?_
      refine tri_reg mixed hcx ?_ _ _
      refine fa rfl fTrR 3 ?_
      refine ld rfl rfl tyQ rfl ?_
      refine ca rfl (h := r03_ValidG (q := true) (by simp [hb]) (by omega)) (hn := ?_)
      refine mv rfl ?_
      refine fa rfl fTrR 3 ?_ (hg := gd1)
      refine fa rfl fNum 3 ?_ (hg := gd1)
      refine ld rfl rfl tyZ rfl ?_ (hg := gd1)
      refine ca rfl (h := r02_Sign (by omega)) (hn := ?_) (hg := gd1)
      refine cge rfl rfl (decide_eq_true (by omega)) ?_ (hg := gd1)
      refine pk rfl rfl ?_
      refine asg rfl ?_
      refine ⟨by kernel_rfl, ?_⟩
      refine nx (sl 2 rfl sn) (el 10 rfl en) ?_
      refine tri_ret ?_
      repeat (first | refine pn_thenr ?_ | refine pn_blkr ?_)
      exact ret1 hcx rfl (rv_tmp rfl) (.refl _) en
  · have htn : ts.length = L.length := by rcases ht with h | h <;> omega
    refine tri_reg mixed hcx ?_ _ _
    refine fa rfl fTrG 0 ?_
    refine ld rfl rfl tyG rfl ?_
    refine ca rfl (h := r05_Good (q := true) (by simp [hG]) (by omega) (by omega) (by omega)) (hn := ?_)
    refine nt rfl _ rfl ?_
    refine mv rfl ?_
    refine fa rfl fTrG 0 ?_ (hg := gd1)
    refine fa rfl fL 1 ?_ (hg := gd1)
    refine ld rfl rfl tyZss rfl ?_ (hg := gd1)
    refine ln slZss rfl ?_ (hg := gd1)
    refine cgt rfl rfl (decide_eq_false (by omega)) ?_ (hg := gd1)
    refine pk rfl rfl ?_
    refine mv rfl ?_
    refine fa rfl fTrT 2 ?_ (hg := gd1)
    refine ld rfl rfl tyQs rfl ?_ (hg := gd1)
    refine ln slQs rfl ?_ (hg := gd1)
    refine cne rfl rfl (decide_eq_true (by omega)) ?_ (hg := gd1)
    refine mv rfl ?_ (hg := gd1)
    refine fa rfl fTrT 2 ?_ (hg := gd1)
    refine ld rfl rfl tyQs rfl ?_ (hg := gd1)
    refine ln slQs rfl ?_ (hg := gd1)
    refine fa rfl fTrG 0 ?_ (hg := gd1)
    refine fa rfl fL 1 ?_ (hg := gd1)
    refine ld rfl rfl tyZss rfl ?_ (hg := gd1)
    refine ln slZss rfl ?_ (hg := gd1)
    refine cne rfl rfl (decide_eq_false (by omega)) ?_ (hg := gd1)
    refine pk rfl rfl ?_ (hg := gd1)
    refine pk rfl rfl ?_
    refine ⟨by kernel_rfl, ?_⟩
    refine nx (sl 1 rfl (sl 30 rfl sn)) (el 10 rfl en) ?_
    refine tri_false rfl rfl ?_
    refine tri_skip ?_
    refine nx (sl 1 rfl sn) (el 10 rfl en) ?_
    refine tri_seq ?_
    refine tri_seq ?_
    refine tri_reg mixed hcx ?_ _ _
    refine asg rfl ?_
    refine ⟨by kernel_rfl, ?_⟩
    refine nx (sl 1 rfl (sl 3 rfl sn)) (el 10 rfl en) ?_
    refine tri_block ?_
    refine tri_loop (ι := Nat) (fun i => [(1, T.p 10 0), (3, T.c (.int .i64 (i : Int)))]) (fun i => [(10, some (Ent.box 39 [T.l (cZi k) D, T.l (cL (cZi k)) L, T.l (cQi k) ts, T.Zi a k, T.Zi b k]))]) (fun i => ts.length - i) (fun i => (i ≤ ts.length)) 0 (Nat.zero_le _) (sl 1 rfl (sl 3 rfl sn)) (el 10 rfl en) ?_
    rintro i hi
    refine tri_sub (sl 1 rfl (sl 3 rfl sn)) (el 10 rfl en) ?_
    refine tri_seq ?_
    refine tri_seq ?_
    refine tri_reg mixed hcx ?_ _ _
    refine mv rfl ?_
    refine fa rfl fTrT 2 ?_
    refine ld rfl rfl tyQs rfl ?_
    refine ln slQs rfl ?_
    refine clt rfl rfl rfl ?_
    refine ⟨by kernel_rfl, ?_⟩
    refine nx (sl 1 rfl (sl 3 rfl (sl 35 rfl sn))) (el 10 rfl en) ?_
    refine tri_if rfl (fun hc => ?_) (fun hc => ?_)
    · have hp : 0 < (ts.getD i (cQi k).dflt).2 := hd i (by omega)
      refine tri_skip ?_
      refine nx (sl 1 rfl (sl 3 rfl sn)) (el 10 rfl en) ?_
      refine tri_seq ?_
      refine tri_block ?_
      refine tri_seq ?_
      refine tri_reg mixed hcx ?_ _ _
      refine fa rfl fTrT 2 ?_
      refine ld rfl rfl tyQs rfl ?_
      refine mv rfl ?_
      refine ix rfl rfl slQs ⟨rfl, by omega⟩ ?_
      refine lf rfl tyQ ?_
      refine ca rfl (h := r03_ValidG (a := (ts.getD i (cQi k).dflt).1) (b := (ts.getD i (cQi k).dflt).2) (k := k) (q := true) (iff_of_true rfl hp) (by omega)) (hn := ?_)
      refine nt rfl _ rfl ?_
      refine ⟨by kernel_rfl, ?_⟩
      refine nx (sl 1 rfl (sl 3 rfl (sl 44 rfl sn))) (el 10 rfl en) ?_
      refine tri_false rfl rfl ?_
      refine tri_skip ?_
      refine pn_blk ?_
      refine nx (sl 1 rfl (sl 3 rfl sn)) (el 10 rfl en) ?_
      refine tri_reg mixed hcx ?_ _ _
      refine mv rfl ?_
      refine ad (((i + 1 : Nat) : Int)) rfl rfl rfl (by omega) ?_
      refine asg rfl ?_
      refine ⟨by kernel_rfl, ?_⟩
      exact pn_back (i + 1) (by first | omega | (dsimp only; omega)) (by omega) (sl 1 rfl (sl 3 rfl sn)) (el 10 rfl en)
    · refine tri_exit ?_
      repeat (first | refine pn_then ?_ | refine pn_oth (by decide) ?_)
      refine pn_ex ?_
      refine nx (sl 1 rfl sn) (el 10 rfl en) ?_
      refine tri_seq ?_
      refine tri_reg mixed hcx ?_ _ _
      refine fa rfl fTrR 3 ?_
      refine ld rfl rfl tyQ rfl ?_
      refine ca rfl (h := r03_ValidG (q := true) (by simp [hb]) (by omega)) (hn := ?_)
      refine mv rfl ?_
      refine fa rfl fTrR 3 ?_ (hg := gd1)
      refine fa rfl fNum 3 ?_ (hg := gd1)
      refine ld rfl rfl tyZ rfl ?_ (hg := gd1)
      refine ca rfl (h := r02_Sign (by omega)) (hn := ?_) (hg := gd1)
      refine cge rfl rfl (decide_eq_true (by omega)) ?_ (hg := gd1)
      refine pk rfl rfl ?_
      refine asg rfl ?_
      refine ⟨by kernel_rfl, ?_⟩
      refine nx (sl 2 rfl sn) (el 10 rfl en) ?_
      refine tri_ret ?_
      repeat (first | refine pn_thenr ?_ | refine pn_blkr ?_)
      exact ret1 hcx rfl (rv_tmp rfl) (.refl _) en

theorem r11_Valid_no {D : List Int} {L : List (List Int)} {ts : List (Int × Int)} {a b : Int} {k : Nat} (hk : k ≤ 16777216) (hLl : L.length ≤ 1048576) (hDl : D.length ≤ 1048576) (htl : ts.length ≤ 1048576) (hV : ¬ TrV D L ts a b) : Fn Tryz.prog 21 [T.Tr D L ts a b k] [] [] [] (T.c (.bool false)) := by
  classical
  by_cases hG : GoodP D L
  · by_cases hn : L.length ≤ 12
    · by_cases ht : ts.length = 0 ∨ ts.length = L.length
      · by_cases hd : ∀ i, i < ts.length → 0 < (ts.getD i (0, 0)).2
        · by_cases hb : 0 < b
          · exact r11_Valid6 hk hLl hDl htl hG hn ht hd hb (fun ha => hV ⟨hG, hn, ht, hd, hb, ha⟩)
          · exact r11_Valid5 hk hLl hDl htl hG hn ht hd hb
        · obtain ⟨w, h1, h2, h3⟩ := least_bad hd
          exact r11_Valid4 hk hLl hDl htl hG hn ht h1 h2 h3
      · exact r11_Valid3 hk hLl hDl htl hG hn (fun h => ht (.inl h)) (fun h => ht (.inr h))
    · exact r11_Valid2 hk hLl hDl htl hG (by omega)
  · exact r11_Valid1 hk hLl hDl htl hG

theorem r11_aim {D : List Int} {L : List (List Int)} {ts : List (Int × Int)} {a b : Int} {n k : Nat} (h : TrS D L ts n k) {i : Nat} (hi : i < n) : Fn Tryz.prog 125 [T.Tr D L ts a b k, T.c (.int .i64 (i : Int))] [] [] [] (T.Q (aqT ts i) (k + 2)) := by
  refine fn_of Tryz.func125 rfl (by show 2 ≤ 24; decide) fun cx hcx => ?_
  refine tri_sub (sl 0 rfl (sl 1 rfl sn)) en ?_
  have hn12 := h.twelve
  have hkk := h.hk
  have hlL := h.len
  have hn0 := h.pos
  refine tri_seq ?_
  refine tri_reg mixed hcx ?_ _ _
  refine bxs 10 rfl ?_
  refine nw 11 zeQ ?_
  refine ⟨by kernel_rfl, ?_⟩
  refine nx (sl 1 rfl (sl 2 rfl (sl 4 rfl sn))) (el 10 rfl (el 11 rfl en)) ?_
  refine tri_seq ?_
  refine tri_seq ?_
  by_cases htz : ts.length = 0
  · refine tri_reg mixed hcx ?_ _ _
    refine fa rfl fTrT 2 ?_
    refine ld rfl rfl tyQs rfl ?_
    refine ln slQs rfl ?_
    refine ceq rfl rfl (decide_eq_true (by omega)) ?_
    refine ⟨by kernel_rfl, ?_⟩
    refine nx (sl 1 rfl (sl 2 rfl (sl 4 rfl (sl 8 rfl sn)))) (el 10 rfl (el 11 rfl en)) ?_
    refine tri_true rfl rfl ?_
    refine tri_seq ?_
    refine tri_reg mixed hcx ?_ _ _
    refine bu stZ rfl ?_
    refine ca rfl (h := r03_Of (by omega)) (hn := ?_)
    refine st rfl rfl rfl tyQ rfl ?_
    refine ⟨by kernel_rfl, ?_⟩
    refine nx (sl 4 rfl sn) (el 10 rfl (el 11 rfl en)) ?_
    refine tri_ret ?_
    repeat (first | refine pn_thenr ?_ | refine pn_blkr ?_)
    exact ret1 hcx rfl (rv_cell (c' := cx) (n := 0) rfl rfl tyQ rfl) (q_qb (by unfold aqT; rw [if_pos htz]; rfl) (h.a hi)) en
  · have hti : i < ts.length := by rcases h.tl with h1 | h1 <;> omega
    have hte : 0 < (ts.getD i (cQi k).dflt).2 := h.tp i hti
    refine tri_reg mixed hcx ?_ _ _
    refine fa rfl fTrT 2 ?_
    refine ld rfl rfl tyQs rfl ?_
    refine ln slQs rfl ?_
    refine ceq rfl rfl (decide_eq_false (by omega)) ?_
    refine ⟨by kernel_rfl, ?_⟩
    refine nx (sl 1 rfl (sl 2 rfl (sl 4 rfl (sl 8 rfl sn)))) (el 10 rfl (el 11 rfl en)) ?_
    refine tri_false rfl rfl ?_
    refine tri_skip ?_
    refine nx (sl 1 rfl (sl 2 rfl (sl 4 rfl sn))) (el 10 rfl (el 11 rfl en)) ?_
    refine tri_seq ?_
    refine tri_reg mixed hcx ?_ _ _
    refine fa rfl fTrT 2 ?_
    refine ld rfl rfl tyQs rfl ?_
    refine mv rfl ?_
    refine ix rfl rfl slQs ⟨rfl, by omega⟩ ?_
    refine ff rfl fNum rfl ?_
    refine lf rfl tyZ ?_
    refine fa rfl fTrT 2 ?_
    refine ld rfl rfl tyQs rfl ?_
    refine mv rfl ?_
    refine ix rfl rfl slQs ⟨rfl, by omega⟩ ?_
    refine ff rfl fDen rfl ?_
    refine lf rfl tyZ ?_
    refine ca rfl (h := r03_Make (a := (ts.getD i (cQi k).dflt).1) (b := (ts.getD i (cQi k).dflt).2) (k := k) (l := k) (by omega) (by omega) (by omega)) (hn := ?_)
    refine st rfl rfl rfl tyQ rfl ?_
    refine ⟨by kernel_rfl, ?_⟩
    refine nx (sl 4 rfl sn) (el 10 rfl (el 11 rfl en)) ?_
    refine tri_ret ?_
    repeat (first | refine pn_thenr ?_ | refine pn_blkr ?_)
    exact ret1 hcx rfl (rv_cell (c' := cx) (n := 0) rfl rfl tyQ rfl) (q_qb (by unfold aqT; rw [if_neg htz]; rfl) (h.a hi)) en

theorem r11_Centre {D : List Int} {L : List (List Int)} {ts : List (Int × Int)} {a b : Int} {n k : Nat} (h : TrS D L ts n k) {s : List Int} (hs : s.length + 1 ≤ n) : Fn Tryz.prog 69 [T.Tr D L ts a b k, T.l (cZi k) s] [] [] [] (T.Q (ctT D L ts s (n - 1) (n - 1 - s.length) s.length) 600000000) := by
  refine fn_of Tryz.func69 rfl (by show 2 ≤ 52; decide) fun cx hcx => ?_
  refine tri_sub (sl 0 rfl (sl 1 rfl sn)) en ?_
  have hn12 := h.twelve
  have hkk := h.hk
  have hlL := h.len
  have hn0 := h.pos
  refine tri_lz 1 rfl fun hz => ?_
  have hQ := fun e (he : n - 1 - s.length + e ≤ n - 1) => h.ct' hz (m := n - 1) (i := n - 1 - s.length) (c := e) (by omega) he
  refine tri_seq ?_
  refine tri_reg mixed hcx ?_ _ _
  refine bxs 10 rfl ?_
  refine nw 11 zeQ ?_
  refine ⟨by kernel_rfl, ?_⟩
  refine nx (sl 1 rfl (sl 2 rfl (sl 4 rfl sn))) (el 10 rfl (el 11 rfl en)) ?_
  refine tri_seq ?_
  refine tri_reg mixed hcx ?_ _ _
  refine fa rfl fTrG 0 ?_
  refine fa rfl fL 1 ?_
  refine ld rfl rfl tyZss rfl ?_
  refine ln slZss rfl ?_
  refine asg rfl ?_
  refine ⟨by kernel_rfl, ?_⟩
  refine nx (sl 1 rfl (sl 2 rfl (sl 4 rfl (sl 5 rfl sn)))) (el 10 rfl (el 11 rfl en)) ?_
  refine tri_seq ?_
  refine tri_reg mixed hcx ?_ _ _
  refine mv rfl ?_
  refine sb (((n - 1 : Nat) : Int)) rfl rfl rfl (by omega) ?_
  refine mv rfl ?_
  refine ln slZs rfl ?_
  refine sb (((n - 1 - s.length : Nat) : Int)) rfl rfl rfl (by omega) ?_
  refine asg rfl ?_
  refine ⟨by kernel_rfl, ?_⟩
  refine nx (sl 1 rfl (sl 2 rfl (sl 4 rfl (sl 5 rfl (sl 6 rfl sn))))) (el 10 rfl (el 11 rfl en)) ?_
  refine tri_seq ?_
  refine tri_reg mixed hcx ?_ _ _
  refine ld rfl rfl tyTr rfl ?_
  refine mv rfl ?_
  refine ca rfl (h := r11_aim h (by omega)) (hn := ?_)
  refine nw 313 zeQ ?_
  refine st rfl rfl rfl tyQ rfl ?_
  refine ⟨by kernel_rfl, ?_⟩
  refine nx (sl 1 rfl (sl 2 rfl (sl 4 rfl (sl 5 rfl (sl 6 rfl (sl 7 rfl sn)))))) (el 10 rfl (el 11 rfl (el 313 rfl en))) ?_
  refine tri_seq ?_
  refine tri_seq ?_
  refine tri_reg mixed hcx ?_ _ _
  refine asg rfl ?_
  refine ⟨by kernel_rfl, ?_⟩
  refine nx (sl 1 rfl (sl 2 rfl (sl 4 rfl (sl 5 rfl (sl 6 rfl (sl 7 rfl (sl 8 rfl sn))))))) (el 10 rfl (el 11 rfl (el 313 rfl en))) ?_
  refine tri_block ?_
  refine tri_loop (ι := Nat) (fun e => [(1, T.l (cZi k) s), (2, T.p 10 0), (4, T.p 11 0), (5, T.c (.int .i64 (L.length : Int))), (6, T.c (.int .i64 ((n - 1 - s.length : Nat) : Int))), (7, T.p 313 0), (8, T.c (.int .i64 (e : Int)))]) (fun e => [(10, some (Ent.box 39 [T.l (cZi k) D, T.l (cL (cZi k)) L, T.l (cQi k) ts, T.Zi a k, T.Zi b k])), (11, some (Ent.box 34 [T.c (.bool false), T.c (.slice none 0 0), T.c (.bool false), T.c (.slice none 0 0)])), (313, some (Ent.box 34 [T.Q (ctT D L ts s (n - 1) (n - 1 - s.length) e) 600000000]))]) (fun e => s.length - e) (fun e => (e ≤ s.length)) 0 (Nat.zero_le _) (sl 1 rfl (sl 2 rfl (sl 4 rfl (sl 5 rfl (sl 6 rfl (sl 7 rfl (sl 8 rfl sn))))))) (el 10 rfl (el 11 rfl (ew 313 rfl (box_q (q_qb rfl (hQ 0 (by omega)))) en))) ?_
  rintro e he
  refine tri_sub (sl 1 rfl (sl 2 rfl (sl 4 rfl (sl 5 rfl (sl 6 rfl (sl 7 rfl (sl 8 rfl sn))))))) (el 10 rfl (el 11 rfl (el 313 rfl en))) ?_
  refine tri_seq ?_
  refine tri_seq ?_
  refine tri_reg mixed hcx ?_ _ _
  refine mv rfl ?_
  refine mv rfl ?_
  refine ln slZs rfl ?_
  refine clt rfl rfl rfl ?_
  refine ⟨by kernel_rfl, ?_⟩
  refine nx (sl 1 rfl (sl 2 rfl (sl 4 rfl (sl 5 rfl (sl 6 rfl (sl 7 rfl (sl 8 rfl (sl 26 rfl sn)))))))) (el 10 rfl (el 11 rfl (el 313 rfl en))) ?_
  refine tri_if rfl (fun hc => ?_) (fun hc => ?_)
  · refine tri_skip ?_
    refine nx (sl 1 rfl (sl 2 rfl (sl 4 rfl (sl 5 rfl (sl 6 rfl (sl 7 rfl (sl 8 rfl sn))))))) (el 10 rfl (el 11 rfl (el 313 rfl en))) ?_
    refine tri_seq ?_
    refine tri_block ?_
    refine tri_seq ?_
    refine tri_reg mixed hcx ?_ _ _
    refine mv rfl ?_
    refine sb (((n - 1 : Nat) : Int)) rfl rfl rfl (by omega) ?_
    refine mv rfl ?_
    refine sb (((n - 1 - e : Nat) : Int)) rfl rfl rfl (by omega) ?_
    refine asg rfl ?_
    refine ⟨by kernel_rfl, ?_⟩
    refine nx (sl 1 rfl (sl 2 rfl (sl 4 rfl (sl 5 rfl (sl 6 rfl (sl 7 rfl (sl 8 rfl (sl 9 rfl sn)))))))) (el 10 rfl (el 11 rfl (el 313 rfl en))) ?_
    refine tri_seq ?_
    refine tri_reg mixed hcx ?_ _ _
    refine mv rfl ?_
    refine mv rfl ?_
    refine ix rfl rfl slZs ⟨rfl, by omega⟩ ?_
    refine lf rfl tyZ ?_
    refine ca rfl (h := r03_Of (by omega)) (hn := ?_)
    refine ld rfl rfl tyTr rfl ?_
    refine mv rfl ?_
    refine ca rfl (h := r11_aim h (by omega)) (hn := ?_)
    refine cb rfl (h := r3v_Sub (by omega) (by omega)) (hn := ?_)
    refine nw 819 zeQ ?_
    refine st rfl rfl rfl tyQ rfl ?_
    refine ⟨by kernel_rfl, ?_⟩
    refine nx (sl 1 rfl (sl 2 rfl (sl 4 rfl (sl 5 rfl (sl 6 rfl (sl 7 rfl (sl 8 rfl (sl 9 rfl (sl 10 rfl sn))))))))) (el 10 rfl (el 11 rfl (el 313 rfl (el 819 rfl en)))) ?_
    refine tri_reg mixed hcx ?_ _ _
    refine ld rfl rfl tyQ rfl ?_
    refine fa rfl fTrG 0 ?_
    refine ld rfl rfl tyG rfl ?_
    refine mv rfl ?_
    refine mv rfl ?_
    refine ca rfl (h := r05_Mu (k := k) (i := n - 1 - e) (j := n - 1 - s.length) (by omega) (by omega) h.good (by omega) (by omega)) (hn := ?_)
    refine ld rfl rfl tyQ rfl ?_
    refine cb rfl (h := r3v_Mul (by omega) (by omega)) (hn := ?_)
    refine cb rfl (h := r3v_Sub (by omega) (by omega)) (hn := ?_)
    refine st rfl rfl rfl tyQ rfl ?_
    refine ⟨by kernel_rfl, ?_⟩
    refine pn_blk ?_
    refine nx (sl 1 rfl (sl 2 rfl (sl 4 rfl (sl 5 rfl (sl 6 rfl (sl 7 rfl (sl 8 rfl sn))))))) (el 10 rfl (el 11 rfl (el 313 rfl (el 819 rfl en)))) ?_
    refine tri_reg mixed hcx ?_ _ _
    refine mv rfl ?_
    refine ad (((e + 1 : Nat) : Int)) rfl rfl rfl (by omega) ?_
    refine asg rfl ?_
    refine ⟨by kernel_rfl, ?_⟩
    exact pn_back (e + 1) (by first | omega | (dsimp only; omega)) (by omega) (sl 1 rfl (sl 2 rfl (sl 4 rfl (sl 5 rfl (sl 6 rfl (sl 7 rfl (sl 8 rfl sn))))))) (el 10 rfl (el 11 rfl (ew 313 rfl (box_q (q_qb (congrArg (fun z => ctT D L ts s (n - 1) (n - 1 - s.length) e - z) (Rat.mul_comm _ _)) (hQ (e + 1) (by omega)))) en)))
  · refine tri_exit ?_
    repeat (first | refine pn_then ?_ | refine pn_oth (by decide) ?_)
    refine pn_ex ?_
    have hes : e = s.length := by omega
    refine nx (sl 4 rfl (sl 7 rfl sn)) (el 10 rfl (el 11 rfl (el 313 rfl en))) ?_
    refine tri_seq ?_
    refine tri_reg mixed hcx ?_ _ _
    refine ld rfl rfl tyQ rfl ?_
    refine st rfl rfl rfl tyQ rfl ?_
    refine ⟨by kernel_rfl, ?_⟩
    refine nx (sl 4 rfl sn) (el 10 rfl (el 11 rfl (el 313 rfl en))) ?_
    refine tri_ret ?_
    repeat (first | refine pn_thenr ?_ | refine pn_blkr ?_)
    exact ret1 hcx rfl (rv_cell (c' := cx) (n := 0) rfl rfl tyQ rfl) (q_eq (by rw [hes]) (Nat.le_refl _)) en

theorem r11_Part {D : List Int} {L : List (List Int)} {ts : List (Int × Int)} {a b : Int} {n k : Nat} (h : TrS D L ts n k) {s : List Int} (hs : s.length ≤ n) : Fn Tryz.prog 70 [T.Tr D L ts a b k, T.l (cZi k) s] [] [] [] (T.Q (ptT D L ts s (n - 1) s.length) 15100000000) := by
  refine fn_of Tryz.func70 rfl (by show 2 ≤ 46; decide) fun cx hcx => ?_
  refine tri_sub (sl 0 rfl (sl 1 rfl sn)) en ?_
  have hn12 := h.twelve
  have hkk := h.hk
  have hlL := h.len
  have hn0 := h.pos
  refine tri_lz 1 rfl fun hz => ?_
  have hQ := fun e (he : e ≤ n) => h.pt' hz (m := n - 1) (c := e) (by omega) he
  refine tri_seq ?_
  refine tri_reg mixed hcx ?_ _ _
  refine bxs 10 rfl ?_
  refine nw 11 zeQ ?_
  refine ⟨by kernel_rfl, ?_⟩
  refine nx (sl 1 rfl (sl 2 rfl (sl 4 rfl sn))) (el 10 rfl (el 11 rfl en)) ?_
  refine tri_seq ?_
  refine tri_reg mixed hcx ?_ _ _
  refine bu stZ rfl ?_
  refine ca rfl (h := r03_Of (by omega)) (hn := ?_)
  refine nw 112 zeQ ?_
  refine st rfl rfl rfl tyQ rfl ?_
  refine ⟨by kernel_rfl, ?_⟩
  refine nx (sl 1 rfl (sl 2 rfl (sl 4 rfl (sl 5 rfl sn)))) (el 10 rfl (el 11 rfl (el 112 rfl en))) ?_
  refine tri_seq ?_
  refine tri_seq ?_
  refine tri_reg mixed hcx ?_ _ _
  refine asg rfl ?_
  refine ⟨by kernel_rfl, ?_⟩
  refine nx (sl 1 rfl (sl 2 rfl (sl 4 rfl (sl 5 rfl (sl 6 rfl sn))))) (el 10 rfl (el 11 rfl (el 112 rfl en))) ?_
  refine tri_block ?_
  refine tri_loop (ι := Nat) (fun e => [(1, T.l (cZi k) s), (2, T.p 10 0), (4, T.p 11 0), (5, T.p 112 0), (6, T.c (.int .i64 (e : Int)))]) (fun e => [(10, some (Ent.box 39 [T.l (cZi k) D, T.l (cL (cZi k)) L, T.l (cQi k) ts, T.Zi a k, T.Zi b k])), (11, some (Ent.box 34 [T.c (.bool false), T.c (.slice none 0 0), T.c (.bool false), T.c (.slice none 0 0)])), (112, some (Ent.box 34 [T.Q (ptT D L ts s (n - 1) e) 15100000000]))]) (fun e => s.length - e) (fun e => (e ≤ s.length)) 0 (Nat.zero_le _) (sl 1 rfl (sl 2 rfl (sl 4 rfl (sl 5 rfl (sl 6 rfl sn))))) (el 10 rfl (el 11 rfl (ew 112 rfl (box_q (q_qb (by rfl) (hQ 0 (by omega)))) en))) ?_
  rintro e he
  refine tri_sub (sl 1 rfl (sl 2 rfl (sl 4 rfl (sl 5 rfl (sl 6 rfl sn))))) (el 10 rfl (el 11 rfl (el 112 rfl en))) ?_
  refine tri_seq ?_
  refine tri_seq ?_
  refine tri_reg mixed hcx ?_ _ _
  refine mv rfl ?_
  refine mv rfl ?_
  refine ln slZs rfl ?_
  refine clt rfl rfl rfl ?_
  refine ⟨by kernel_rfl, ?_⟩
  refine nx (sl 1 rfl (sl 2 rfl (sl 4 rfl (sl 5 rfl (sl 6 rfl (sl 14 rfl sn)))))) (el 10 rfl (el 11 rfl (el 112 rfl en))) ?_
  refine tri_if rfl (fun hc => ?_) (fun hc => ?_)
  · have htk : (s.take e).length = e := by rw [List.length_take]; omega
    have hCt := fn_out (r11_Centre (a := a) (b := b) (s := s.take e) h (by omega)) (q_eq (q' := ctT D L ts s (n - 1) (n - 1 - e) e) (by rw [htk]; exact ctT_ext fun j hj => by rw [take_getD hj]) (Nat.le_refl _))
    refine tri_skip ?_
    refine nx (sl 1 rfl (sl 2 rfl (sl 4 rfl (sl 5 rfl (sl 6 rfl sn))))) (el 10 rfl (el 11 rfl (el 112 rfl en))) ?_
    refine tri_seq ?_
    refine tri_block ?_
    refine tri_seq ?_
    refine tri_reg mixed hcx ?_ _ _
    refine fa rfl fTrG 0 ?_
    refine fa rfl fL 1 ?_
    refine ld rfl rfl tyZss rfl ?_
    refine ln slZss rfl ?_
    refine sb (((n - 1 : Nat) : Int)) rfl rfl rfl (by omega) ?_
    refine mv rfl ?_
    refine sb (((n - 1 - e : Nat) : Int)) rfl rfl rfl (by omega) ?_
    refine asg rfl ?_
    refine ⟨by kernel_rfl, ?_⟩
    refine nx (sl 1 rfl (sl 2 rfl (sl 4 rfl (sl 5 rfl (sl 6 rfl (sl 7 rfl sn)))))) (el 10 rfl (el 11 rfl (el 112 rfl en))) ?_
    refine tri_seq ?_
    refine tri_reg mixed hcx ?_ _ _
    refine mv rfl ?_
    refine mv rfl ?_
    refine ix rfl rfl slZs ⟨rfl, by omega⟩ ?_
    refine lf rfl tyZ ?_
    refine ca rfl (h := r03_Of (by omega)) (hn := ?_)
    refine ld rfl rfl tyTr rfl ?_
    refine mv rfl ?_
    refine mv rfl ?_
    refine sh rfl slZs rfl ⟨rfl, by omega⟩ ?_
    refine ca rfl (h := hCt) (hn := ?_)
    refine cb rfl (h := r3v_Sub (by omega) (by omega)) (hn := ?_)
    refine nw 621 zeQ ?_
    refine st rfl rfl rfl tyQ rfl ?_
    refine ⟨by kernel_rfl, ?_⟩
    refine nx (sl 1 rfl (sl 2 rfl (sl 4 rfl (sl 5 rfl (sl 6 rfl (sl 7 rfl (sl 8 rfl sn))))))) (el 10 rfl (el 11 rfl (el 112 rfl (el 621 rfl en)))) ?_
    refine tri_reg mixed hcx ?_ _ _
    refine ld rfl rfl tyQ rfl ?_
    refine ld rfl rfl tyQ rfl ?_
    refine ld rfl rfl tyQ rfl ?_
    refine cb rfl (h := r3v_Mul (by omega) (by omega)) (hn := ?_)
    refine fa rfl fTrG 0 ?_
    refine ld rfl rfl tyG rfl ?_
    refine mv rfl ?_
    refine ca rfl (h := r05_Star (k := k) (i := n - 1 - e) (by omega) (by omega) h.good (by omega)) (hn := ?_)
    refine cb rfl (h := r3v_Mul (by omega) (by omega)) (hn := ?_)
    refine cb rfl (h := r3v_Add (by omega) (by omega)) (hn := ?_)
    refine st rfl rfl rfl tyQ rfl ?_
    refine ⟨by kernel_rfl, ?_⟩
    refine pn_blk ?_
    refine nx (sl 1 rfl (sl 2 rfl (sl 4 rfl (sl 5 rfl (sl 6 rfl sn))))) (el 10 rfl (el 11 rfl (el 112 rfl (el 621 rfl en)))) ?_
    refine tri_reg mixed hcx ?_ _ _
    refine mv rfl ?_
    refine ad (((e + 1 : Nat) : Int)) rfl rfl rfl (by omega) ?_
    refine asg rfl ?_
    refine ⟨by kernel_rfl, ?_⟩
    exact pn_back (e + 1) (by first | omega | (dsimp only; omega)) (by omega) (sl 1 rfl (sl 2 rfl (sl 4 rfl (sl 5 rfl (sl 6 rfl sn))))) (el 10 rfl (el 11 rfl (ew 112 rfl (box_q (q_qb rfl (hQ (e + 1) (by omega)))) en)))
  · refine tri_exit ?_
    repeat (first | refine pn_then ?_ | refine pn_oth (by decide) ?_)
    refine pn_ex ?_
    have hes : e = s.length := by omega
    refine nx (sl 4 rfl (sl 5 rfl sn)) (el 10 rfl (el 11 rfl (el 112 rfl en))) ?_
    refine tri_seq ?_
    refine tri_reg mixed hcx ?_ _ _
    refine ld rfl rfl tyQ rfl ?_
    refine st rfl rfl rfl tyQ rfl ?_
    refine ⟨by kernel_rfl, ?_⟩
    refine nx (sl 4 rfl sn) (el 10 rfl (el 11 rfl (el 112 rfl en))) ?_
    refine tri_ret ?_
    repeat (first | refine pn_thenr ?_ | refine pn_blkr ?_)
    exact ret1 hcx rfl (rv_cell (c' := cx) (n := 0) rfl rfl tyQ rfl) (q_eq (by rw [hes]) (Nat.le_refl _)) en

theorem r11_In {D : List Int} {L : List (List Int)} {ts : List (Int × Int)} {a b : Int} {n k : Nat} (h : TrS D L ts n k) {s : List Int} (hb : 0 < b) (hs : s.length ≤ n) : Fn Tryz.prog 68 [T.Tr D L ts a b k, T.l (cZi k) s] [] [] [] (T.c (.bool (decide (ptT D L ts s (n - 1) s.length ≤ (a : Rat) / (b : Rat))))) := by
  refine fn_of Tryz.func68 rfl (by show 2 ≤ 12; decide) fun cx hcx => ?_
  refine tri_sub (sl 0 rfl (sl 1 rfl sn)) en ?_
  have hn12 := h.twelve
  have hkk := h.hk
  have hlL := h.len
  have hn0 := h.pos
  refine tri_seq ?_
  refine tri_reg mixed hcx ?_ _ _
  refine bxs 10 rfl ?_
  refine asg rfl ?_
  refine ⟨by kernel_rfl, ?_⟩
  refine nx (sl 1 rfl (sl 2 rfl sn)) (el 10 rfl en) ?_
  refine tri_seq ?_
  refine tri_reg mixed hcx ?_ _ _
  refine ld rfl rfl tyTr rfl ?_
  refine mv rfl ?_
  refine ca rfl (h := r11_Part h (by omega)) (hn := ?_)
  refine fa rfl fTrR 3 ?_
  refine ld rfl rfl tyQ rfl ?_
  refine cb rfl (h := r3v_Cmp (by omega) (by omega)) (hn := ?_)
  refine cle rfl rfl rfl ?_
  refine asg rfl ?_
  refine ⟨by kernel_rfl, ?_⟩
  refine nx (sl 4 rfl sn) (el 10 rfl en) ?_
  refine tri_ret ?_
  repeat (first | refine pn_thenr ?_ | refine pn_blkr ?_)
  exact ret1 hcx rfl (rv_tmp rfl) (.of (by rw [decide_eq_decide.2 sgq_le])) en

theorem l11_fits_lt {D : List Int} {L : List (List Int)} {ts : List (Int × Int)} {a b : Int} {k : Nat} {s : List Int} (hLl : L.length ≤ 1048576) (hsl : s.length ≤ 1048576) {q : Bool} (h : s.length < L.length) : Fn Tryz.prog 22 [T.Tr D L ts a b k, T.l (cZi k) s, T.c (.bool q)] [] [] [] (T.c (.bool true)) := by
  refine fn_of Tryz.func22 rfl (by show 3 ≤ 27; decide) fun cx hcx => ?_
  refine tri_sub (sl 0 rfl (sl 1 rfl (sl 2 rfl sn))) en ?_
  refine tri_seq ?_
  refine tri_reg mixed hcx ?_ _ _
  refine bxs 10 rfl ?_
  refine asg rfl ?_
  refine ⟨by kernel_rfl, ?_⟩
  refine nx (sl 1 rfl (sl 2 rfl (sl 3 rfl sn))) (el 10 rfl en) ?_
  refine tri_seq ?_
  refine tri_reg mixed hcx ?_ _ _
  refine mv rfl ?_
  refine ln slZs rfl ?_
  refine fa rfl fTrG 0 ?_
  refine fa rfl fL 1 ?_
  refine ld rfl rfl tyZss rfl ?_
  refine ln slZss rfl ?_
  refine clt rfl rfl (decide_eq_true (by omega)) ?_
  refine mv rfl ?_
  refine j_off rfl rfl rfl rfl ?_
  refine j_off rfl rfl rfl rfl ?_
  refine j_off rfl rfl rfl rfl ?_
  refine j_ofu rfl rfl rfl ?_
  refine j_ofu rfl rfl rfl ?_
  refine j_ofu rfl rfl rfl ?_
  refine j_ofu rfl rfl rfl ?_
  refine j_ofu rfl rfl rfl ?_
  refine j_ofu rfl rfl rfl ?_
  refine j_ofu rfl rfl rfl ?_
  refine j_off rfl rfl rfl rfl ?_
  refine pk rfl rfl ?_
  refine asg rfl ?_
  refine ⟨by kernel_rfl, ?_⟩
  refine nx (sl 6 rfl sn) (el 10 rfl en) ?_
  refine tri_ret ?_
  repeat (first | refine pn_thenr ?_ | refine pn_blkr ?_)
  exact ret1 hcx rfl (rv_tmp rfl) (.refl _) en

theorem l11_fits_ge {D : List Int} {L : List (List Int)} {ts : List (Int × Int)} {a b : Int} {k : Nat} {s : List Int} (hLl : L.length ≤ 1048576) (hsl : s.length ≤ 1048576) (h : L.length ≤ s.length) : Fn Tryz.prog 22 [T.Tr D L ts a b k, T.l (cZi k) s, T.c (.bool true)] [] [] [] (T.c (.bool false)) := by
  refine fn_of Tryz.func22 rfl (by show 3 ≤ 27; decide) fun cx hcx => ?_
  refine tri_sub (sl 0 rfl (sl 1 rfl (sl 2 rfl sn))) en ?_
  refine tri_seq ?_
  refine tri_reg mixed hcx ?_ _ _
  refine bxs 10 rfl ?_
  refine asg rfl ?_
  refine ⟨by kernel_rfl, ?_⟩
  refine nx (sl 1 rfl (sl 2 rfl (sl 3 rfl sn))) (el 10 rfl en) ?_
  refine tri_seq ?_
  refine tri_reg mixed hcx ?_ _ _
  refine mv rfl ?_
  refine ln slZs rfl ?_
  refine fa rfl fTrG 0 ?_
  refine fa rfl fL 1 ?_
  refine ld rfl rfl tyZss rfl ?_
  refine ln slZss rfl ?_
  refine clt rfl rfl (decide_eq_false (by omega)) ?_
  refine mv rfl ?_
  refine mv rfl ?_ (hg := gd1)
  refine nt rfl _ rfl ?_ (hg := gd1)
  refine mv rfl ?_ (hg := gd1)
  refine j_off rfl rfl rfl rfl ?_
  refine j_off rfl rfl rfl rfl ?_
  refine j_off rfl rfl rfl rfl ?_
  refine j_off rfl rfl rfl rfl ?_
  refine j_off rfl rfl rfl rfl ?_
  refine j_off rfl rfl rfl rfl ?_
  refine j_off rfl rfl rfl rfl ?_
  refine pk rfl rfl ?_ (hg := gd1)
  refine pk rfl rfl ?_
  refine asg rfl ?_
  refine ⟨by kernel_rfl, ?_⟩
  refine nx (sl 6 rfl sn) (el 10 rfl en) ?_
  refine tri_ret ?_
  repeat (first | refine pn_thenr ?_ | refine pn_blkr ?_)
  exact ret1 hcx rfl (rv_tmp rfl) (.refl _) en

end Go.Proofs.YtekghdfbhbhigaaGreat.V
/- Search trees: every suffix has the part that its definition tells. -/
set_option linter.unusedVariables false
set_option linter.unusedSimpArgs false
set_option maxRecDepth 100000
namespace Go.Proofs.YtekghdfbhbhigaaGreat.V
open Go.RowKit Mt Nml
-- left out

-- left out

-- left out

-- left out
end Go.Proofs.YtekghdfbhbhigaaGreat.V
/- What is read of the arguments of a law: search trees. -/
set_option linter.unusedVariables false
set_option linter.unusedSimpArgs false
namespace Go.Proofs.YtekghdfbhbhigaaGreat.V
open Go.Deep Go.ChangeShapes Go.WideShapes Go.ChangeAt Go.RowKit Mt Nml
section
variable {P : Program} {H : Type} {enc : TypeId × Value → H} {W : World} {base : Nat} {spare : Nat → Bool} {held : Bool} {fuel : Nat} {cs : List Value} {x : DataW H × List MemPlace}
theorem trod_struct3 {t : TypeId} {f0 f1 f2 : Field} (ht : P.underlying t = some (.struct #[f0, f1, f2])) (h : DataW.trod enc P W base spare held fuel t cs = some x) :
    ∃ y0 y1 y2 n, x = (.agg [y0.1, y1.1, y2.1], y0.2 ++ (y1.2 ++ y2.2)) ∧ cs.length = P.cellsOf t ∧ DataW.trod enc P W base spare held n f0.type ((cs.drop f0.offset).take (P.cellsOf f0.type)) = some y0 ∧
      DataW.trod enc P W base spare held n f1.type ((cs.drop f1.offset).take (P.cellsOf f1.type)) = some y1 ∧ DataW.trod enc P W base spare held n f2.type ((cs.drop f2.offset).take (P.cellsOf f2.type)) = some y2 := by
  obtain ⟨xs, n, _, rfl, hl, hlen, hf⟩ := DataW.trod_struct ht h
  match xs, hlen with
  | [y0, y1, y2], _ => exact ⟨y0, y1, y2, n, by simp, hl, by simpa using hf 0 f0 rfl, by simpa using hf 1 f1 rfl, by simpa using hf 2 f2 rfl⟩
set_option maxRecDepth 100000 in
theorem read_Tree {k : Nat} (h : DataW.trod enc Tryz.prog W base spare held fuel 39 cs = some x) (hk : Rows.uptoBulk x.1 ≤ k) : ∃ D L ts a b, (T.Tr D L ts a b k).rep B0 W (.agg cs.toArray) ∧ D.length ≤ k ∧ L.length ≤ k ∧ ts.length ≤ k := by
  obtain ⟨y0, y1, y2, m, rfl, hl, h0, h1, h2⟩ := trod_struct3 Tryz.underlying39 h
  have hl2 : cs.length = 7 := hl.trans (by kernel_rfl)
  have hk' : Rows.uptoBulk y0.1 + (Rows.uptoBulk y1.1 + (Rows.uptoBulk y2.1 + 0)) + 1 ≤ k := hk
  match cs, hl2 with
  | [c0, c1, c2, c3, c4, c5, c6], _ =>
    have k0 : (([c0, c1, c2, c3, c4, c5, c6] : List Value).drop 0).take (Tryz.prog.cellsOf 27) = [c0, c1] := by rw [show Tryz.prog.cellsOf 27 = 2 from by kernel_rfl]; rfl
    have k1 : (([c0, c1, c2, c3, c4, c5, c6] : List Value).drop 2).take (Tryz.prog.cellsOf 37) = [c2] := by rw [show Tryz.prog.cellsOf 37 = 1 from by kernel_rfl]; rfl
    have k2 : (([c0, c1, c2, c3, c4, c5, c6] : List Value).drop 3).take (Tryz.prog.cellsOf 34) = [c3, c4, c5, c6] := by rw [show Tryz.prog.cellsOf 34 = 4 from by kernel_rfl]; rfl
    rw [k0] at h0
    rw [k1] at h1
    rw [k2] at h2
    obtain ⟨D, L, hG, hD, hL⟩ := read_Gso (k := k) h0 (by omega)
    obtain ⟨v, ts, e1, hT, hTn⟩ := read_fracs (k := k) h1 (by omega)
    obtain ⟨a, b, hR⟩ := read_Frac (k := k) h2 (by omega)
    cases e1
    refine ⟨D, L, ts, a, b, tr_flat (A := T.l (cZi k) D) (B := T.l (cL (cZi k)) L) (C := T.l (cQi k) ts) (D := T.Zi a k) (E := T.Zi b k) _ _ _ ⟨[c0, c1, c2, c3, c4, c5, c6], rfl, .agg #[c0, c1], [c2, c3, c4, c5, c6], by show (2 : Nat) ≠ 0; omega, hG, rfl, c2, [c3, c4, c5, c6], by show (1 : Nat) ≠ 0; omega, hT, ?_, .agg #[c3, c4, c5, c6], [], by show (4 : Nat) ≠ 0; omega, hR, rfl, rfl⟩, hD, hL, by omega⟩
    obtain ⟨A, n, q, rfl, _⟩ := hT
    rfl
end
end Go.Proofs.YtekghdfbhbhigaaGreat.V
/- A search tree: how large its numbers are; each suffix has so many nodes below it. -/
set_option linter.unusedVariables false
set_option maxRecDepth 100000
namespace Go.Proofs.YtekghdfbhbhigaaGreat.V
open Go.RowKit Mt Nml
/-- A fraction's size. -/
def Rb (q : Rat) (e : Nat) : Prop := -((B e : Int) : Rat) ≤ q ∧ q ≤ ((B e : Int) : Rat)
theorem B_rp (e : Nat) : (1 : Rat) ≤ ((B e : Int) : Rat) := by
  have := Int.add_one_le_iff.2 (B_pos e)
  rw [show (1 : Rat) = ((1 : Int) : Rat) from rfl, Rat.intCast_le_intCast]
  omega
theorem B_rm {e f : Nat} (h : e ≤ f) : ((B e : Int) : Rat) ≤ ((B f : Int) : Rat) := Rat.intCast_le_intCast.2 (B_mono h)
theorem B_r2 (e : Nat) : ((B e : Int) : Rat) + ((B e : Int) : Rat) ≤ ((B (e + 1) : Int) : Rat) := by
  rw [← Rat.intCast_add, Rat.intCast_le_intCast, B_succ]
  have := B_pos e
  omega
theorem B_rmul (e f : Nat) : ((B (e + f) : Int) : Rat) = ((B e : Int) : Rat) * ((B f : Int) : Rat) := by rw [B_add, Rat.intCast_mul]
theorem Rb.mono {q : Rat} {e f : Nat} (h : Rb q e) (hf : e ≤ f) : Rb q f := by
  have := B_rm hf
  unfold Rb at *
  generalize ((B e : Int) : Rat) = x at *
  generalize ((B f : Int) : Rat) = y at *
  grind
theorem Rb.add {x y : Rat} {e : Nat} (h : Rb x e) (k : Rb y e) : Rb (x + y) (e + 1) := by
  have := B_r2 e
  unfold Rb at *
  generalize ((B e : Int) : Rat) = a at *
  generalize ((B (e + 1) : Int) : Rat) = b at *
  grind
theorem Rb.sub {x y : Rat} {e : Nat} (h : Rb x e) (k : Rb y e) : Rb (x - y) (e + 1) := by
  have := B_r2 e
  unfold Rb at *
  generalize ((B e : Int) : Rat) = a at *
  generalize ((B (e + 1) : Int) : Rat) = b at *
  grind
theorem Rb.mul {x y : Rat} {e f : Nat} (h : Rb x e) (k : Rb y f) : Rb (x * y) (e + f) := by
  unfold Rb at *
  rw [B_rmul]
  generalize ((B e : Int) : Rat) = a at *
  generalize ((B f : Int) : Rat) = c at *
  obtain ⟨h1, h2⟩ := h
  obtain ⟨k1, k2⟩ := k
  have p1 := Rat.mul_nonneg (show 0 ≤ a - x by grind) (show 0 ≤ c + y by grind)
  have p2 := Rat.mul_nonneg (show 0 ≤ a + x by grind) (show 0 ≤ c - y by grind)
  have p3 := Rat.mul_nonneg (show 0 ≤ a - x by grind) (show 0 ≤ c - y by grind)
  have p4 := Rat.mul_nonneg (show 0 ≤ a + x by grind) (show 0 ≤ c + y by grind)
  grind
theorem zl_B {z : Int} {e : Nat} (h : zl z ≤ e) : -(B e) < z ∧ z < B e := by
  have h1 := lt_B_lim z.natAbs
  have h2 := B_mono (show lim z.natAbs ≤ e from h)
  omega
theorem B_zl {z : Int} {e : Nat} (h : -(B e) ≤ z) (h2 : z ≤ B e) : zl z ≤ e + 1 := by
  unfold zl
  refine lim_le ?_
  have := B_pos e
  rw [B_succ]
  omega
theorem Rb.int {z : Int} {e : Nat} (h : zl z ≤ e) : Rb (z : Rat) e := by
  have := zl_B h
  unfold Rb
  rw [← Rat.intCast_neg, Rat.intCast_le_intCast, Rat.intCast_le_intCast]
  omega
theorem Rb.frac {a b : Int} {e : Nat} (h : zl a ≤ e) (hb : 0 < b) : Rb ((a : Rat) / (b : Rat)) e := by
  have h1 := zl_B h
  have hp := B_pos e
  have hm := Int.mul_le_mul_of_nonneg_left (show 1 ≤ b by omega) (show 0 ≤ B e by omega)
  refine ⟨?_, Rat.le_of_lt ?_⟩
  · rw [← Rat.intCast_neg, rle_div hb, Int.neg_mul]
    omega
  · rw [Rat.div_lt_iff (Rat.intCast_pos.2 hb), ← Rat.intCast_mul, Rat.intCast_lt_intCast]
    omega
/-- A whole number of such a size. -/
theorem Rb.zl {z : Int} {e : Nat} (h : Rb (z : Rat) e) : zl z ≤ e + 1 := by
  unfold Rb at h
  rw [← Rat.intCast_neg, Rat.intCast_le_intCast, Rat.intCast_le_intCast] at h
  exact B_zl h.1 h.2
theorem nea_Rb {c : Rat} {e : Nat} (h : Rb c e) : Rb ((nea c : Int) : Rat) (e + 1) := by
  have h1 := nea_b c
  have h2 := B_r2 e
  have h3 := B_rp e
  unfold Rb at *
  generalize ((nea c : Int) : Rat) = x at *
  generalize ((B e : Int) : Rat) = a at *
  generalize ((B (e + 1) : Int) : Rat) = b at *
  grind
/-- How far the k-th number is from the nearest. -/
theorem nth_far (c : Rat) (j : Nat) : nth c j = nea c + (((j + 1) / 2 : Nat) : Int) ∨ nth c j = nea c - (((j + 1) / 2 : Nat) : Int) := by
  unfold nth
  split
  · exact .inl rfl
  · exact .inr rfl
theorem nth_zl {c : Rat} {e j : Nat} (h : Rb c e) (hj : (((j + 1) / 2 : Nat) : Int) ≤ B (e + 1)) : zl (nth c j) ≤ e + 3 := by
  have h1 := nea_Rb h
  have h2 : Rb (((((j + 1) / 2 : Nat) : Int)) : Rat) (e + 1) := by
    have := B_pos (e + 1)
    unfold Rb
    rw [← Rat.intCast_neg, Rat.intCast_le_intCast, Rat.intCast_le_intCast]
    omega
  rcases nth_far c j with h3 | h3 <;> rw [h3]
  · have := Rb.add h1 h2
    rw [← Rat.intCast_add] at this
    exact Rb.zl this
  · have := Rb.sub h1 h2
    rw [← Rat.intCast_sub] at this
    exact Rb.zl this
theorem tq_Rb {D : List Int} {L : List (List Int)} {ts : List (Int × Int)} {n k : Nat} (h : TrS D L ts n k) {i : Nat} (hi : i < n) : Rb (aqT ts i) k := by
  unfold aqT
  split
  · exact Rb.mono (Rb.int (z := 0) (e := 0) (by rw [zl_zero]; exact Nat.le_refl _)) (Nat.zero_le _)
  · rename_i h0
    rcases h.tl with h1 | h1
    · exact absurd h1 h0
    · exact Rb.frac (h.zt i (by omega)).1 (h.tp i (by omega))
theorem ct_Rb {D : List Int} {L : List (List Int)} {ts : List (Int × Int)} {n k : Nat} (h : TrS D L ts n k) {s : List Int} {b : Nat} (hkb : k ≤ b) (hs : ∀ j, zl (s.getD j 0) ≤ b) {m i : Nat} (hm : m + 1 = n) : ∀ {c : Nat}, i + c ≤ m → Rb (ctT D L ts s m i c) (b + k + 2 + c)
  | 0, hc => Rb.mono (tq_Rb h (by omega)) (by omega)
  | c + 1, hc => by
    have h1 := ct_Rb h hkb hs hm (i := i) (c := c) (by omega)
    have h2 := Rb.mul (Rb.sub (Rb.int (hs c)) (Rb.mono (tq_Rb h (i := m - c) (by omega)) hkb)) (Rb.frac (h.zL i (m - c)) (h.dp (i := i + 1) (by omega)))
    exact Rb.sub h1 (Rb.mono (f := b + k + 2 + c) h2 (by omega))
/-- A part within the bound: the number is near. -/
theorem near_Rb {D : List Int} {L : List (List Int)} {ts : List (Int × Int)} {n k : Nat} (h : TrS D L ts n k) {i : Nat} (hi : i < n) {p R y : Rat} (hp : 0 ≤ p) (hR : Rb R k) (hw : p + y * y * stq D i ≤ R) : Rb y (2 * k) := by
  have d0 := h.dp (i := i) (by omega)
  have d1 := h.dp (i := i + 1) (by omega)
  have z0 := zl_B (h.zD i)
  have h0 : (0 : Rat) < ((D.getD i 0 : Int) : Rat) := Rat.intCast_pos.2 d0
  have h1 : (1 : Rat) ≤ ((D.getD (i + 1) 0 : Int) : Rat) := by
    rw [show (1 : Rat) = ((1 : Int) : Rat) from rfl, Rat.intCast_le_intCast]; omega
  have h2 : ((D.getD i 0 : Int) : Rat) ≤ ((B k : Int) : Rat) := Rat.intCast_le_intCast.2 (by omega)
  have hb1 := B_rp k
  have hb2 := B_rmul k k
  have hst : stq D i * ((D.getD i 0 : Int) : Rat) = ((D.getD (i + 1) 0 : Int) : Rat) := by
    unfold stq
    generalize ((D.getD i 0 : Int) : Rat) = x at *
    grind
  have hR2 := hR.2
  rw [show 2 * k = k + k by omega]
  unfold Rb
  rw [hb2]
  generalize stq D i = st at *
  generalize ((D.getD i 0 : Int) : Rat) = x at *
  generalize ((D.getD (i + 1) 0 : Int) : Rat) = x1 at *
  generalize ((B k : Int) : Rat) = b at *
  have hyy : 0 ≤ y * y := by
    rcases Rat.le_total (a := 0) (b := y) with h | h
    · exact Rat.mul_nonneg h h
    · have := Rat.mul_nonneg (show 0 ≤ -y by grind) (show 0 ≤ -y by grind)
      grind
  have q1 : y * y * st ≤ b := by grind
  have q2 : y * y * st * x ≤ b * x := Rat.mul_le_mul_of_nonneg_right q1 (Rat.le_of_lt h0)
  have q3 : y * y * st * x = y * y * x1 := by rw [← hst]; grind
  have q4 : 0 ≤ y * y * (x1 - 1) := Rat.mul_nonneg hyy (by grind)
  have q5 : 0 ≤ b * (b - x) := Rat.mul_nonneg (by grind) (by grind)
  have q6 : y * y ≤ b * b := by grind
  have q7 : 1 ≤ b * b := by
    have := Rat.mul_nonneg (show 0 ≤ b - 1 by grind) (show 0 ≤ b + 1 by grind)
    grind
  constructor
  · refine Rat.not_lt.1 fun hlt => ?_
    have := Rat.mul_nonneg (show 0 ≤ -y by grind) (show 0 ≤ -y - 1 by grind)
    grind
  · refine Rat.not_lt.1 fun hlt => ?_
    have := Rat.mul_nonneg (show 0 ≤ y by grind) (show 0 ≤ y - 1 by grind)
    grind
theorem least_not {P : Nat → Prop} : ∀ {n : Nat}, (¬ ∀ i, i < n → P i) → ∃ w, w < n ∧ ¬ P w ∧ ∀ i, i < w → P i
  | 0, h => absurd (fun i hi => absurd hi (Nat.not_lt_zero _)) h
  | n + 1, h => by
    classical
    by_cases h1 : ∀ i, i < n → P i
    · refine ⟨n, Nat.lt_succ_self _, fun hp => h fun i hi => ?_, h1⟩
      rcases Nat.lt_or_eq_of_le (Nat.le_of_lt_succ hi) with h2 | h2
      · exact h1 i h2
      · rw [h2]; exact hp
    · obtain ⟨w, k1, k2, k3⟩ := least_not h1
      exact ⟨w, by omega, k2, k3⟩
theorem stq_pos {D : List Int} {L : List (List Int)} {ts : List (Int × Int)} {n k : Nat} (h : TrS D L ts n k) {i : Nat} (hi : i < n) : 0 < stq D i := by
  have d0 := h.dp (i := i) (by omega)
  have d1 := h.dp (i := i + 1) (by omega)
  unfold stq
  rw [Rat.div_def]
  exact Rat.mul_pos (Rat.intCast_pos.2 d1) (Rat.inv_pos.2 (Rat.intCast_pos.2 d0))
theorem sq_nn (y : Rat) : 0 ≤ y * y := by
  rcases Rat.le_total (a := 0) (b := y) with h | h
  · exact Rat.mul_nonneg h h
  · have := Rat.mul_nonneg (show 0 ≤ -y by grind) (show 0 ≤ -y by grind)
    grind
theorem pt_nn {D : List Int} {L : List (List Int)} {ts : List (Int × Int)} {n k : Nat} (h : TrS D L ts n k) (s : List Int) {m : Nat} (hm : m + 1 = n) : ∀ {c : Nat}, c ≤ n → 0 ≤ ptT D L ts s m c
  | 0, _ => Rat.le_refl
  | c + 1, hc => by
    have h1 := pt_nn h s hm (c := c) (by omega)
    have h2 := Rat.mul_nonneg (sq_nn (((s.getD c 0 : Int) : Rat) - ctT D L ts s m (m - c) c)) (Rat.le_of_lt (stq_pos h (i := m - c) (by omega)))
    show 0 ≤ ptT D L ts s m c + _
    grind
theorem getD_snoc' {s : List Int} {x : Int} (j : Nat) : (s ++ [x]).getD j 0 = if j = s.length then x else s.getD j 0 := by
  simp only [List.getD_eq_getElem?_getD, List.getElem?_append]
  by_cases h : j < s.length
  · rw [if_pos h, if_neg (by omega)]
  · rw [if_neg h]
    by_cases h2 : j = s.length
    · rw [if_pos h2, h2]; simp
    · rw [if_neg h2, List.getElem?_eq_none (by simp; omega), List.getElem?_eq_none (by omega)]
theorem pt_snoc' (D : List Int) (L : List (List Int)) (ts : List (Int × Int)) (s : List Int) (m : Nat) (x : Int) : ptT D L ts (s ++ [x]) m (s.length + 1) = ptT D L ts s m s.length + ((x : Rat) - ctT D L ts s m (m - s.length) s.length) * ((x : Rat) - ctT D L ts s m (m - s.length) s.length) * stq D (m - s.length) := by
  show ptT D L ts (s ++ [x]) m s.length + _ = _
  have e1 : ptT D L ts (s ++ [x]) m s.length = ptT D L ts s m s.length := ptT_ext fun j hj => by rw [getD_snoc', if_neg (by omega)]
  have e2 : ctT D L ts (s ++ [x]) m (m - s.length) s.length = ctT D L ts s m (m - s.length) s.length := ctT_ext fun j hj => by rw [getD_snoc', if_neg (by omega)]
  rw [e1, e2, getD_snoc', if_pos rfl]
/-- How many children are nodes, and how large they are. -/
theorem kids_ex {D : List Int} {L : List (List Int)} {ts : List (Int × Int)} {n k : Nat} (h : TrS D L ts n k) {s : List Int} {b : Nat} (hkb : k ≤ b) (hs : ∀ j, zl (s.getD j 0) ≤ b) (hl : s.length < n) {R : Rat} (hR : Rb R k) :
    ∃ m, (∀ j, j ≤ m → zl (nth (ctT D L ts s (n - 1) (n - 1 - s.length) s.length) j) ≤ b + k + 20) ∧ (∀ j, j < m → ptT D L ts (s ++ [nth (ctT D L ts s (n - 1) (n - 1 - s.length) s.length) j]) (n - 1) (s.length + 1) ≤ R) ∧ ¬ ptT D L ts (s ++ [nth (ctT D L ts s (n - 1) (n - 1 - s.length) s.length) m]) (n - 1) (s.length + 1) ≤ R := by
  have hn := h.twelve
  have hc := Rb.mono (ct_Rb h hkb hs (m := n - 1) (i := n - 1 - s.length) (c := s.length) (by omega) (by omega)) (show _ ≤ b + k + 13 by omega)
  have hp := pt_nn h s (m := n - 1) (c := s.length) (by omega) (by omega)
  generalize hcc : ctT D L ts s (n - 1) (n - 1 - s.length) s.length = c at *
  -- a node's number is near
  have near : ∀ j, ptT D L ts (s ++ [nth c j]) (n - 1) (s.length + 1) ≤ R → (((j + 1) / 2 : Nat) : Int) ≤ B (b + k + 15) := fun j hj => by
    rw [pt_snoc', hcc] at hj
    have h1 := Rb.mono (near_Rb h (i := n - 1 - s.length) (by omega) hp hR hj) (show 2 * k ≤ b + k + 13 by omega)
    have h2 := Rb.sub (Rb.add h1 hc) (nea_Rb hc)
    have e : ((nth c j : Int) : Rat) - c + c - ((nea c : Int) : Rat) = ((nth c j - nea c : Int) : Rat) := by rw [Rat.intCast_sub]; grind
    rw [e, show b + k + 13 + 1 + 1 = b + k + 15 by omega] at h2
    unfold Rb at h2
    rw [← Rat.intCast_neg, Rat.intCast_le_intCast, Rat.intCast_le_intCast] at h2
    rcases nth_far c j with h3 | h3 <;> rw [h3] at h2 <;> omega
  have hbp := B_pos (b + k + 15)
  have hex : ¬ ∀ j, j < 2 * (B (b + k + 15)).toNat + 2 → ptT D L ts (s ++ [nth c j]) (n - 1) (s.length + 1) ≤ R := fun hall => by
    have := near (2 * (B (b + k + 15)).toNat + 1) (hall _ (by omega))
    omega
  obtain ⟨m, h1, h2, h3⟩ := least_not hex
  refine ⟨m, fun j hj => ?_, h3, h2⟩
  have hj2 : (((j + 1) / 2 : Nat) : Int) ≤ B (b + k + 16) := by
    rw [show b + k + 16 = b + k + 15 + 1 by omega, B_succ]
    omega
  exact Nat.le_trans (nth_zl (e := b + k + 15) (Rb.mono hc (by omega)) hj2) (by omega)
/-- Each suffix has its nodes. -/
theorem Bel.ex {D : List Int} {L : List (List Int)} {ts : List (Int × Int)} {n k K : Nat} (h : TrS D L ts n k) (hK : k + 12 * (k + 20) ≤ K) {R : Rat} (hR : Rb R k) : ∀ (r : Nat) {s : List Int} {d : Nat}, s.length = d → d + r = n → (∀ j, zl (s.getD j 0) ≤ k + d * (k + 20)) → ∃ ns, Bel D L ts n K R s d ns
  | 0, s, d, hs, hd, hz => ⟨[], by rw [show d = n by omega]; exact Bel.leaf s⟩
  | r + 1, s, d, hs, hd, hz => by
    have hn := h.twelve
    obtain ⟨m, h1, h2, h3⟩ := kids_ex h (s := s) (b := k + d * (k + 20)) (by omega) hz (by omega) hR
    rw [hs] at h1 h2 h3
    have e1 : (d + 1) * (k + 20) = d * (k + 20) + (k + 20) := Nat.succ_mul _ _
    have e2 : (d + 1) * (k + 20) ≤ 12 * (k + 20) := Nat.mul_le_mul_right _ (by omega)
    have ih : ∀ j, ∃ ns, j < m → Bel D L ts n K R (s ++ [nth (ctT D L ts s (n - 1) (n - 1 - d) d) j]) (d + 1) ns := fun j => by
      rcases Nat.lt_or_ge j m with hj | hj
      · obtain ⟨ns, hb⟩ := Bel.ex h hK hR r (s := s ++ [nth (ctT D L ts s (n - 1) (n - 1 - d) d) j]) (d := d + 1) (by simp [hs]) (by omega) (fun i => by
          rw [getD_snoc']
          split
          · have := h1 j (by omega); omega
          · have := hz i; omega)
        exact ⟨ns, fun _ => hb⟩
      · exact ⟨[], fun h => by omega⟩
    exact ⟨_, Bel.node s d m (fun j => Classical.choose (ih j)) (by omega) (fun j hj => by have := h1 j hj; omega) h2 h3 (fun j hj => Classical.choose_spec (ih j) hj)⟩
end Go.Proofs.YtekghdfbhbhigaaGreat.V
/- The nodes of a search tree: each begins with its suffix, each follows the one ahead of it. -/
set_option linter.unusedVariables false
set_option maxRecDepth 100000
namespace Go.Proofs.YtekghdfbhbhigaaGreat.V
open Go.RowKit Mt Nml
end Go.Proofs.YtekghdfbhbhigaaGreat.V
/- A walk through a search tree without recursion: which node comes behind another one. -/
set_option linter.unusedVariables false
set_option maxRecDepth 100000
namespace Go.Proofs.YtekghdfbhbhigaaGreat.V
open Go.RowKit Mt Nml
section
variable (D : List Int) (L : List (List Int)) (ts : List (Int × Int)) (n : Nat) (R : Rat) (r : Nat)
/-- A suffix within the bound; its centre. -/
def Wi (q : List Int) : Prop := ptT D L ts q (n - 1) q.length ≤ R
def cq_ (q : List Int) : Rat := ctT D L ts q (n - 1) (n - 1 - q.length) q.length
/-- What comes behind a suffix and all below it: no higher than r numbers. -/
inductive Ov : List Int → Option (List Int) → Prop
  | stop (q : List Int) : q.length ≤ r → Ov q none
  | go (q : List Int) (x : Int) : r < q.length + 1 → Wi D L ts n R (q ++ [bhd (cq_ D L ts n q) x]) → Ov (q ++ [x]) (some (q ++ [bhd (cq_ D L ts n q) x]))
  | up (q : List Int) (x : Int) (res : Option (List Int)) : r < q.length + 1 → ¬ Wi D L ts n R (q ++ [bhd (cq_ D L ts n q) x]) → Ov q res → Ov (q ++ [x]) res
/-- What comes behind a suffix. -/
def Dn (q : List Int) (res : Option (List Int)) : Prop := (q.length < n ∧ Wi D L ts n R (q ++ [nea (cq_ D L ts n q)]) ∧ res = some (q ++ [nea (cq_ D L ts n q)])) ∨ (¬ (q.length < n ∧ Wi D L ts n R (q ++ [nea (cq_ D L ts n q)])) ∧ Ov D L ts n R r q res)
/-- These come one behind another, then res. -/
def Rn : List Int → List (List Int) → Option (List Int) → Prop
  | p, [], res => Dn D L ts n R r p res
  | p, q :: l, res => Dn D L ts n R r p (some q) ∧ Rn q l res
end
section
variable {D : List Int} {L : List (List Int)} {ts : List (Int × Int)} {n : Nat} {R : Rat} {r : Nat}
theorem rn_append {res : Option (List Int)} {q : List Int} {b : List (List Int)} : ∀ {p : List Int} {a : List (List Int)}, Rn D L ts n R r p a (some q) → Rn D L ts n R r q b res → Rn D L ts n R r p (a ++ q :: b) res
  | p, [], h, k => ⟨h, k⟩
  | p, x :: a, h, k => ⟨h.1, rn_append (p := x) (a := a) h.2 k⟩
theorem Bel.run {k : Nat} {s : List Int} {d : Nat} {ns : List (List Int)} (h : Bel D L ts n k R s d ns) : s.length = d → r ≤ d → ∀ {res : Option (List Int)}, Ov D L ts n R r s res → Rn D L ts n R r s ns res := by
  induction h with
  | leaf s => exact fun hs hr res ho => .inr ⟨fun h => by omega, ho⟩
  | node s d m LL hd hz hw hn hB ih =>
    intro hs hr res ho
    subst hs
    have hwi : ∀ x : Int, Wi D L ts n R (s ++ [x]) ↔ ptT D L ts (s ++ [x]) (n - 1) (s.length + 1) ≤ R := fun x => by unfold Wi; rw [show (s ++ [x]).length = s.length + 1 by simp]
    have hc : cq_ D L ts n s = ctT D L ts s (n - 1) (n - 1 - s.length) s.length := rfl
    have key : ∀ m', m' ≤ m → ∀ res', (m' = 0 → Dn D L ts n R r s res') → (∀ j, m' = j + 1 → Ov D L ts n R r (s ++ [nth (ctT D L ts s (n - 1) (n - 1 - s.length) s.length) j]) res') → Rn D L ts n R r s (fl s (nth (ctT D L ts s (n - 1) (n - 1 - s.length) s.length)) LL m') res' := by
      intro m'
      induction m' with
      | zero => exact fun _ res' h0 _ => h0 rfl
      | succ m' ih' =>
        intro hm' res' _ h1
        refine rn_append (ih' (by omega) _ (fun h0 => ?_) (fun j hj => ?_)) (ih m' (by omega) (by simp) (by omega) (h1 m' rfl))
        · subst h0
          have := (hwi _).2 (hw 0 (by omega))
          rw [nth_zero] at this ⊢
          exact .inl ⟨hd, this, rfl⟩
        · subst hj
          have := (hwi _).2 (hw (j + 1) (by omega))
          rw [← bhd_nth] at this ⊢
          exact Ov.go s _ (by omega) this
    refine key m (Nat.le_refl _) res (fun h0 => ?_) (fun j hj => ?_)
    · subst h0
      refine .inr ⟨fun h => hn ?_, ho⟩
      rw [nth_zero]
      exact (hwi _).1 h.2
    · subst hj
      refine Ov.up s _ res (by omega) (fun h => hn ?_) ho
      rw [← bhd_nth]
      exact (hwi _).1 h
end
end Go.Proofs.YtekghdfbhbhigaaGreat.V
/- Search trees: the children of a suffix. -/
set_option linter.unusedVariables false
set_option linter.unusedSimpArgs false
set_option maxRecDepth 100000
namespace Go.Proofs.YtekghdfbhbhigaaGreat.V
open Go.RowKit Mt Nml
/-- The first numbers about a centre. -/
def kl (c : Rat) (j : Nat) : List Int := (List.range j).map (nth c)
theorem kl_succ {c : Rat} {j : Nat} : kl c j ++ [nth c j] = kl c (j + 1) := by simp [kl, List.range_succ]
theorem kl_len {c : Rat} {j : Nat} : (kl c j).length = j := by simp [kl]
theorem t_Kids {D : List Int} {L : List (List Int)} {ts : List (Int × Int)} {a b : Int} {n k : Nat} (h : TrS D L ts n k) {s : List Int} {m mo : Nat} (hb : 0 < b) (ha : 0 ≤ a) (hs : s.length + 1 ≤ n) (hx : ∀ j, j ≤ m → zl (nth (ctT D L ts s (n - 1) (n - 1 - s.length) s.length) j) ≤ k) (hw : ∀ j, j < m → ptT D L ts (s ++ [nth (ctT D L ts s (n - 1) (n - 1 - s.length) s.length) j]) (n - 1) (s.length + 1) ≤ (a : Rat) / (b : Rat)) (hn : ¬ ptT D L ts (s ++ [nth (ctT D L ts s (n - 1) (n - 1 - s.length) s.length) m]) (n - 1) (s.length + 1) ≤ (a : Rat) / (b : Rat)) (hmo : mo ≤ 65536) (hin : ptT D L ts s (n - 1) s.length ≤ (a : Rat) / (b : Rat)) : Fn Tryz.prog 20 [T.Tr D L ts a b k, T.l (cZi k) s, T.c (.int .i64 (mo : Int))] [] [] [] (T.tup [T.l (cZ k) (kl (ctT D L ts s (n - 1) (n - 1 - s.length) s.length) (min m mo)), T.c (.bool (decide (m ≤ mo))), T.c (.int .i64 0)]) := by
  refine fn_ofM Tryz.func20 rfl (by show 3 ≤ 48; decide) fun cx hcx => ?_
  refine tri_sub (sl 0 rfl (sl 1 rfl (sl 2 rfl sn))) en ?_
  have hn12 := h.twelve
  have hkk := h.hk
  have hlL := h.len
  have hn0 := h.pos
  refine tri_lz 1 rfl fun hz => ?_
  refine tri_seq ?_
  refine tri_reg mixed hcx ?_ _ _
  refine bxs 10 rfl ?_
  refine bx 11 rfl ?_
  refine nw 12 zeZs ?_
  refine nw 13 zeB ?_
  refine nw 14 zeE ?_
  refine ⟨by kernel_rfl, ?_⟩
  refine nx (sl 1 rfl (sl 3 rfl (sl 5 rfl (sl 6 rfl (sl 7 rfl (sl 8 rfl sn)))))) (el 10 rfl (el 11 rfl (el 12 rfl (el 13 rfl (el 14 rfl en))))) ?_
  refine tri_seq ?_
  refine tri_seq ?_
  refine tri_reg mixed hcx ?_ _ _
  refine ld rfl rfl tyTr rfl ?_
  refine mv rfl ?_
  refine fa rfl fTrG 0 ?_
  refine fa rfl fL 1 ?_
  refine ld rfl rfl tyZss rfl ?_
  refine ln slZss rfl ?_
  refine sb (((n - 1 : Nat) : Int)) rfl rfl rfl (by omega) ?_
  refine ld rfl rfl tyI rfl ?_
  refine ca rfl (h := t_counted h hb ha (m := n - 1) (by omega) (by omega) hmo) (hn := ?_)
  refine asg rfl ?_
  refine ⟨by kernel_rfl, ?_⟩
  refine nx (sl 1 rfl (sl 3 rfl (sl 5 rfl (sl 6 rfl (sl 7 rfl (sl 8 rfl (sl 9 rfl sn))))))) (el 10 rfl (el 11 rfl (el 12 rfl (el 13 rfl (el 14 rfl en))))) ?_
  refine tri_seq ?_
  refine tri_reg mixed hcx ?_ _ _
  refine mv rfl ?_
  refine cne rfl rfl (decide_eq_false (by omega)) ?_
  refine ⟨by kernel_rfl, ?_⟩
  refine nx (sl 1 rfl (sl 3 rfl (sl 5 rfl (sl 6 rfl (sl 7 rfl (sl 8 rfl (sl 9 rfl (sl 23 rfl sn)))))))) (el 10 rfl (el 11 rfl (el 12 rfl (el 13 rfl (el 14 rfl en))))) ?_
  refine tri_false rfl rfl ?_
  refine tri_skip ?_
  refine nx (sl 1 rfl (sl 3 rfl (sl 5 rfl (sl 6 rfl (sl 7 rfl (sl 8 rfl sn)))))) (el 10 rfl (el 11 rfl (el 12 rfl (el 13 rfl (el 14 rfl en))))) ?_
  refine tri_seq ?_
  refine tri_reg mixed hcx ?_ _ _
  refine ld rfl rfl tyTr rfl ?_
  refine mv rfl ?_
  refine ca rfl (h := t_part h (by omega)) (hn := ?_)
  refine nw 413 zeQ ?_
  refine st rfl rfl rfl tyQ rfl ?_
  refine ⟨by kernel_rfl, ?_⟩
  refine nx (sl 1 rfl (sl 3 rfl (sl 5 rfl (sl 6 rfl (sl 7 rfl (sl 8 rfl (sl 10 rfl sn))))))) (el 10 rfl (el 11 rfl (el 12 rfl (el 13 rfl (el 14 rfl (el 413 rfl en)))))) ?_
  refine tri_seq ?_
  refine tri_seq ?_
  refine tri_reg mixed hcx ?_ _ _
  refine ld rfl rfl tyTr rfl ?_
  refine ld rfl rfl tyQ rfl ?_
  refine cb rfl (h := t_within hb (by omega) (by omega)) (hn := ?_)
  refine nt rfl _ (show (!decide _) = false from by rw [decide_eq_true hin]; rfl) ?_
  refine ⟨by kernel_rfl, ?_⟩
  refine nx (sl 1 rfl (sl 3 rfl (sl 5 rfl (sl 6 rfl (sl 7 rfl (sl 8 rfl (sl 10 rfl (sl 31 rfl sn)))))))) (el 10 rfl (el 11 rfl (el 12 rfl (el 13 rfl (el 14 rfl (el 413 rfl en)))))) ?_
  refine tri_false rfl rfl ?_
  refine tri_skip ?_
  refine nx (sl 1 rfl (sl 3 rfl (sl 5 rfl (sl 6 rfl (sl 7 rfl (sl 8 rfl (sl 10 rfl sn))))))) (el 10 rfl (el 11 rfl (el 12 rfl (el 13 rfl (el 14 rfl (el 413 rfl en)))))) ?_
  refine tri_seq ?_
  refine tri_reg mixed hcx ?_ _ _
  refine nw 710 zeZs ?_
  refine ⟨by kernel_rfl, ?_⟩
  refine nx (sl 1 rfl (sl 3 rfl (sl 5 rfl (sl 6 rfl (sl 7 rfl (sl 8 rfl (sl 10 rfl (sl 11 rfl sn)))))))) (el 10 rfl (el 11 rfl (el 12 rfl (el 13 rfl (el 14 rfl (el 413 rfl (el 710 rfl en))))))) ?_
  refine tri_seq ?_
  refine tri_seq ?_
  rcases Nat.lt_or_ge mo m with hlt | hle
  · refine tri_nilb (cZ k) 32 (bl := [T.c (.slice none 0 0)]) (bl' := [T.o 9]) 710 9 rfl ⟨.inr ⟨rfl, rfl⟩, trivial⟩ (by rw [hcx]; kernel_rfl) ?_
    refine tri_reg mixed hcx ?_ _ _
    refine ld rfl rfl tyTr rfl ?_
    refine mv rfl ?_
    refine ld rfl rfl tyQ rfl ?_
    refine ca rfl (h := t_kids) (hn := ?_)
    refine ⟨by kernel_rfl, ?_⟩
    refine nx (sl 5 rfl (sl 6 rfl (sl 7 rfl (sl 8 rfl (sl 11 rfl (sl 35 rfl sn)))))) (el 10 rfl (el 11 rfl (el 12 rfl (el 13 rfl (el 14 rfl (el 413 rfl (el 710 rfl (el 9 rfl en)))))))) ?_
    refine tri_block ?_
    refine tri_range (ι := Nat) (κ := Unit) (f := 121) (Caps := [T.fp (T.Tr D L ts a b k), T.fp (T.l (cZi k) s), T.fp (T.Q (ptT D L ts s (n - 1) s.length) 15100000000)]) (R := T.tup []) (g' := [(5, T.p 11 0), (6, T.p 12 0), (7, T.p 13 0), (8, T.p 14 0), (11, T.p 710 0)]) (fun j => [(11, some (Ent.box 3 [T.c (.int .i64 (mo : Int))])), (12, some (Ent.box 23 [T.c (.slice none 0 0)])), (13, some (Ent.box 4 [T.c (.bool false)])), (14, some (Ent.box 41 [T.c (.int .i64 0)])), (9, some (Ent.row (cZ k) 32 (kl (ctT D L ts s (n - 1) (n - 1 - s.length) s.length) j))), (710, some (Ent.box 23 [T.o 9]))]) (fun _ => [(11, some (Ent.box 3 [T.c (.int .i64 (mo : Int))])), (12, some (Ent.box 23 [T.o 9])), (13, some (Ent.box 4 [T.c (.bool false)])), (14, some (Ent.box 41 [T.c (.int .i64 0)])), (9, some (Ent.row (cZ k) 32 (kl (ctT D L ts s (n - 1) (n - 1 - s.length) s.length) mo))), (710, some (Ent.box 23 [T.o 9]))]) (fun _ => .ret) (fun j X o => (j < mo ∧ X = (T.Ch (nth (ctT D L ts s (n - 1) (n - 1 - s.length) s.length) j) k (ptT D L ts (s ++ [nth (ctT D L ts s (n - 1) (n - 1 - s.length) s.length) j]) (n - 1) (s.length + 1)) 15100000000) ∧ o = .inl (j + 1)) ∨ (j = mo ∧ X = (T.Ch (nth (ctT D L ts s (n - 1) (n - 1 - s.length) s.length) j) k (ptT D L ts (s ++ [nth (ctT D L ts s (n - 1) (n - 1 - s.length) s.length) j]) (n - 1) (s.length + 1)) 15100000000) ∧ o = .inr ())) (0) (.inr ()) rfl hcx rfl (by intro a w; kernel_rfl) (by decide) (sl 5 rfl (sl 6 rfl (sl 7 rfl (sl 8 rfl (sl 11 rfl sn))))) (el 11 rfl (el 12 rfl (el 13 rfl (el 14 rfl (el 9 rfl (el 710 rfl en)))))) ?_ ?_ ?_ ?_
    · intro lw W V hW
      exact t_kids1 (Z := W) (zf := V ()) (K := mo) h hb hs hz (fun j hj => hx j (by omega)) (fun j hj => hw j (by omega)) (fun j hj => hW j _ (.inl (j + 1)) (.inl ⟨hj, rfl, rfl⟩)) (.inr ⟨hw mo hlt, hW mo _ (.inr ()) (.inr ⟨rfl, rfl, rfl⟩)⟩)
    · rintro j X o (⟨_, rfl, _⟩ | ⟨_, rfl, _⟩) <;> rfl
    · rintro lr dB rr c' hrd hdf hcx' j X o (⟨hj, rfl, rfl⟩ | ⟨hj, rfl, rfl⟩)
      · have hkl := @kl_len (ctT D L ts s (n - 1) (n - 1 - s.length) s.length) j
        refine tri_reg mixed hcx' ?_ _ _
        refine nw 910 zeCh ?_
        refine sts rfl rfl rfl tyCh rfl ?_
        refine ⟨by kernel_rfl, ?_⟩
        refine nx_begin hrd rfl (sl 5 rfl (sl 6 rfl (sl 7 rfl (sl 8 rfl (sl 11 rfl (sl 12 rfl sn)))))) (el 702 rfl (el 701 rfl (el 11 rfl (el 12 rfl (el 13 rfl (el 14 rfl (el 9 rfl (el 710 rfl (el 910 rfl en))))))))) ?_
        refine tri_block ?_
        refine tri_seq ?_
        refine tri_seq ?_
        refine tri_reg mixed hcx' ?_ _ _
        refine ld rfl rfl tyZs rfl ?_
        refine lno slZs rfl rfl ?_
        refine ld rfl rfl tyI rfl ?_
        refine ceq rfl rfl (decide_eq_false (by omega)) ?_
        refine ⟨by kernel_rfl, ?_⟩
        refine nx (sl 6 rfl (sl 7 rfl (sl 8 rfl (sl 11 rfl (sl 12 rfl (sl 40 rfl sn)))))) (el 702 rfl (el 701 rfl (el 11 rfl (el 12 rfl (el 13 rfl (el 14 rfl (el 9 rfl (el 710 rfl (el 910 rfl en))))))))) ?_
        refine tri_false rfl rfl ?_
        refine tri_skip ?_
        refine nx (sl 11 rfl (sl 12 rfl sn)) (el 702 rfl (el 701 rfl (el 11 rfl (el 12 rfl (el 13 rfl (el 14 rfl (el 9 rfl (el 710 rfl (el 910 rfl en))))))))) ?_
        refine tri_reg mixed hcx' ?_ _ _
        refine ld rfl rfl tyZs rfl ?_
        refine fa rfl fChx 0 ?_
        refine ld rfl rfl tyZ rfl ?_
        refine bs (c := cZ k) (xs := [nth (ctT D L ts s (n - 1) (n - 1 - s.length) s.length) j]) slZs rfl ⟨.refl _, trivial⟩ ?_
        refine ap 1214 rfl rfl rfl slZs (by simp only [List.length_cons, List.length_nil]; omega) (by decide) ?_
        refine st rfl rfl rfl tyZs rfl ?_
        refine ⟨by kernel_rfl, ?_⟩
        refine pn_blk ?_
        refine pn_sub sn (el 702 rfl (el 701 rfl (el 11 rfl (el 12 rfl (el 13 rfl (el 14 rfl (el 1214 rfl (el 710 rfl en)))))))) ?_
        refine pn_renb (bl := [T.o 1214]) (bl' := [T.o 9]) 710 9 1214 rfl rfl ⟨.inr ⟨rfl, rfl⟩, trivial⟩ (by rw [hcx']; kernel_rfl) rfl ?_
        exact rq_go (el 702 rfl (el 701 rfl (el 11 rfl (el 12 rfl (el 13 rfl (el 14 rfl (ew 9 rfl (.of (by rw [kl_succ])) (el 710 rfl en))))))))
      · have hkl := @kl_len (ctT D L ts s (n - 1) (n - 1 - s.length) s.length) j
        refine tri_reg mixed hcx' ?_ _ _
        refine nw 910 zeCh ?_
        refine sts rfl rfl rfl tyCh rfl ?_
        refine ⟨by kernel_rfl, ?_⟩
        refine nx_begin hrd rfl (sl 5 rfl (sl 6 rfl (sl 7 rfl (sl 8 rfl (sl 11 rfl (sl 12 rfl sn)))))) (el 702 rfl (el 701 rfl (el 11 rfl (el 12 rfl (el 13 rfl (el 14 rfl (el 9 rfl (el 710 rfl (el 910 rfl en))))))))) ?_
        refine tri_block ?_
        refine tri_seq ?_
        refine tri_seq ?_
        refine tri_reg mixed hcx' ?_ _ _
        refine ld rfl rfl tyZs rfl ?_
        refine lno slZs rfl rfl ?_
        refine ld rfl rfl tyI rfl ?_
        refine ceq rfl rfl (decide_eq_true (by omega)) ?_
        refine ⟨by kernel_rfl, ?_⟩
        refine nx (sl 6 rfl (sl 7 rfl (sl 8 rfl (sl 11 rfl (sl 12 rfl (sl 40 rfl sn)))))) (el 702 rfl (el 701 rfl (el 11 rfl (el 12 rfl (el 13 rfl (el 14 rfl (el 9 rfl (el 710 rfl (el 910 rfl en))))))))) ?_
        refine tri_true rfl rfl ?_
        refine tri_seq ?_
        refine tri_reg mixed hcx' ?_ _ _
        refine ld rfl rfl tyZs rfl ?_
        refine st rfl rfl rfl tyZs rfl ?_
        refine st rfl rfl rfl tyB rfl ?_
        refine st rfl rfl rfl tyE rfl ?_
        refine ⟨by kernel_rfl, ?_⟩
        refine nx (sl 6 rfl (sl 7 rfl (sl 8 rfl sn))) (el 702 rfl (el 701 rfl (el 11 rfl (el 12 rfl (el 13 rfl (el 14 rfl (el 9 rfl (el 710 rfl (el 910 rfl en))))))))) ?_
        refine tri_ret ?_
        repeat (first | refine pn_thenr ?_ | refine pn_blkr ?_)
        exact rq_ret (el 702 rfl (el 701 rfl (el 11 rfl (el 12 rfl (el 13 rfl (el 14 rfl (ew 9 rfl (.of (by rw [hj])) (el 710 rfl en))))))))
    · intro lr dB oo
      refine done_stop ?_
      refine tri_fz 9 rfl ?_
      refine tri_rdb (bl := [T.o 9]) (bl' := [T.l (cZ k) (kl (ctT D L ts s (n - 1) (n - 1 - s.length) s.length) mo)]) 12 9 rfl rfl ⟨.inr ⟨rfl, rfl⟩, trivial⟩ ?_
      refine tri_ret ?_
      repeat (first | refine pn_thenr ?_ | refine pn_blkr ?_)
      refine ret_M1 (.inl rfl) rfl rfl ?_
      exact ret3 hcx rfl (rv_cell (c' := cx) (n := 0) rfl rfl tyZs rfl) (rv_cell (c' := cx) (n := 0) rfl rfl tyB rfl) (rv_cell (c' := cx) (n := 0) rfl rfl tyE rfl) (tup_le ⟨.of (by rw [Nat.min_eq_right (by omega)]), .of (by rw [decide_eq_false (by omega)]), .refl _, trivial⟩) en
  · refine tri_nilb (cZ k) 32 (bl := [T.c (.slice none 0 0)]) (bl' := [T.o 9]) 710 9 rfl ⟨.inr ⟨rfl, rfl⟩, trivial⟩ (by rw [hcx]; kernel_rfl) ?_
    refine tri_reg mixed hcx ?_ _ _
    refine ld rfl rfl tyTr rfl ?_
    refine mv rfl ?_
    refine ld rfl rfl tyQ rfl ?_
    refine ca rfl (h := t_kids) (hn := ?_)
    refine ⟨by kernel_rfl, ?_⟩
    refine nx (sl 5 rfl (sl 6 rfl (sl 7 rfl (sl 8 rfl (sl 11 rfl (sl 35 rfl sn)))))) (el 10 rfl (el 11 rfl (el 12 rfl (el 13 rfl (el 14 rfl (el 413 rfl (el 710 rfl (el 9 rfl en)))))))) ?_
    refine tri_block ?_
    refine tri_range (ι := Nat) (κ := Unit) (f := 121) (Caps := [T.fp (T.Tr D L ts a b k), T.fp (T.l (cZi k) s), T.fp (T.Q (ptT D L ts s (n - 1) s.length) 15100000000)]) (R := T.tup []) (g' := [(5, T.p 11 0), (6, T.p 12 0), (7, T.p 13 0), (8, T.p 14 0), (11, T.p 710 0)]) (fun j => [(11, some (Ent.box 3 [T.c (.int .i64 (mo : Int))])), (12, some (Ent.box 23 [T.c (.slice none 0 0)])), (13, some (Ent.box 4 [T.c (.bool false)])), (14, some (Ent.box 41 [T.c (.int .i64 0)])), (9, some (Ent.row (cZ k) 32 (kl (ctT D L ts s (n - 1) (n - 1 - s.length) s.length) j))), (710, some (Ent.box 23 [T.o 9]))]) (fun _ => [(11, some (Ent.box 3 [T.c (.int .i64 (mo : Int))])), (12, some (Ent.box 23 [T.o 9])), (13, some (Ent.box 4 [T.c (.bool false)])), (14, some (Ent.box 41 [T.c (.int .i64 0)])), (9, some (Ent.row (cZ k) 32 (kl (ctT D L ts s (n - 1) (n - 1 - s.length) s.length) mo))), (710, some (Ent.box 23 [T.o 9]))]) (fun _ => .ret) (fun j X o => j < m ∧ X = (T.Ch (nth (ctT D L ts s (n - 1) (n - 1 - s.length) s.length) j) k (ptT D L ts (s ++ [nth (ctT D L ts s (n - 1) (n - 1 - s.length) s.length) j]) (n - 1) (s.length + 1)) 15100000000) ∧ o = .inl (j + 1)) (0) (.inl m) rfl hcx rfl (by intro a w; kernel_rfl) (by decide) (sl 5 rfl (sl 6 rfl (sl 7 rfl (sl 8 rfl (sl 11 rfl sn))))) (el 11 rfl (el 12 rfl (el 13 rfl (el 14 rfl (el 9 rfl (el 710 rfl en)))))) ?_ ?_ ?_ ?_
    · intro lw W V hW
      exact t_kids1 (Z := W) (zf := W m) (K := m) h hb hs hz (fun j hj => hx j (by omega)) (fun j hj => hw j (by omega)) (fun j hj => hW j _ (.inl (j + 1)) ⟨hj, rfl, rfl⟩) (.inl ⟨hn, rfl⟩)
    · rintro j X o ⟨_, rfl, _⟩ <;> rfl
    · rintro lr dB rr c' hrd hdf hcx' j X o ⟨hj, rfl, rfl⟩
      · have hkl := @kl_len (ctT D L ts s (n - 1) (n - 1 - s.length) s.length) j
        refine tri_reg mixed hcx' ?_ _ _
        refine nw 910 zeCh ?_
        refine sts rfl rfl rfl tyCh rfl ?_
        refine ⟨by kernel_rfl, ?_⟩
        refine nx_begin hrd rfl (sl 5 rfl (sl 6 rfl (sl 7 rfl (sl 8 rfl (sl 11 rfl (sl 12 rfl sn)))))) (el 702 rfl (el 701 rfl (el 11 rfl (el 12 rfl (el 13 rfl (el 14 rfl (el 9 rfl (el 710 rfl (el 910 rfl en))))))))) ?_
        refine tri_block ?_
        refine tri_seq ?_
        refine tri_seq ?_
        refine tri_reg mixed hcx' ?_ _ _
        refine ld rfl rfl tyZs rfl ?_
        refine lno slZs rfl rfl ?_
        refine ld rfl rfl tyI rfl ?_
        refine ceq rfl rfl (decide_eq_false (by omega)) ?_
        refine ⟨by kernel_rfl, ?_⟩
        refine nx (sl 6 rfl (sl 7 rfl (sl 8 rfl (sl 11 rfl (sl 12 rfl (sl 40 rfl sn)))))) (el 702 rfl (el 701 rfl (el 11 rfl (el 12 rfl (el 13 rfl (el 14 rfl (el 9 rfl (el 710 rfl (el 910 rfl en))))))))) ?_
        refine tri_false rfl rfl ?_
        refine tri_skip ?_
        refine nx (sl 11 rfl (sl 12 rfl sn)) (el 702 rfl (el 701 rfl (el 11 rfl (el 12 rfl (el 13 rfl (el 14 rfl (el 9 rfl (el 710 rfl (el 910 rfl en))))))))) ?_
        refine tri_reg mixed hcx' ?_ _ _
        refine ld rfl rfl tyZs rfl ?_
        refine fa rfl fChx 0 ?_
        refine ld rfl rfl tyZ rfl ?_
        refine bs (c := cZ k) (xs := [nth (ctT D L ts s (n - 1) (n - 1 - s.length) s.length) j]) slZs rfl ⟨.refl _, trivial⟩ ?_
        refine ap 1214 rfl rfl rfl slZs (by simp only [List.length_cons, List.length_nil]; omega) (by decide) ?_
        refine st rfl rfl rfl tyZs rfl ?_
        refine ⟨by kernel_rfl, ?_⟩
        refine pn_blk ?_
        refine pn_sub sn (el 702 rfl (el 701 rfl (el 11 rfl (el 12 rfl (el 13 rfl (el 14 rfl (el 1214 rfl (el 710 rfl en)))))))) ?_
        refine pn_renb (bl := [T.o 1214]) (bl' := [T.o 9]) 710 9 1214 rfl rfl ⟨.inr ⟨rfl, rfl⟩, trivial⟩ (by rw [hcx']; kernel_rfl) rfl ?_
        exact rq_go (el 702 rfl (el 701 rfl (el 11 rfl (el 12 rfl (el 13 rfl (el 14 rfl (ew 9 rfl (.of (by rw [kl_succ])) (el 710 rfl en))))))))
    · intro lr dB oo
      refine done_go ?_
      refine pn_blk ?_
      refine nx (sl 6 rfl (sl 7 rfl (sl 8 rfl (sl 11 rfl sn)))) (el 702 rfl (el 701 rfl (el 11 rfl (el 12 rfl (el 13 rfl (el 14 rfl (el 9 rfl (el 710 rfl en)))))))) ?_
      refine tri_seq ?_
      refine tri_reg mixed (show (cx.up.put dB).I = _ from hcx) ?_ _ _
      refine ld rfl rfl tyZs rfl ?_
      refine st rfl rfl rfl tyZs rfl ?_
      refine st rfl rfl rfl tyB rfl ?_
      refine st rfl rfl rfl tyE rfl ?_
      refine ⟨by kernel_rfl, ?_⟩
      refine nx (sl 6 rfl (sl 7 rfl (sl 8 rfl sn))) (el 702 rfl (el 701 rfl (el 11 rfl (el 12 rfl (el 13 rfl (el 14 rfl (el 9 rfl (el 710 rfl en)))))))) ?_
      refine tri_fz 9 rfl ?_
      refine tri_rdb (bl := [T.o 9]) (bl' := [T.l (cZ k) (kl (ctT D L ts s (n - 1) (n - 1 - s.length) s.length) m)]) 12 9 rfl rfl ⟨.inr ⟨rfl, rfl⟩, trivial⟩ ?_
      refine tri_ret ?_
      repeat (first | refine pn_thenr ?_ | refine pn_blkr ?_)
      refine ret_M1 (.inl rfl) rfl rfl ?_
      exact ret3 hcx rfl (rv_cell (c' := cx) (n := 0) rfl rfl tyZs rfl) (rv_cell (c' := cx) (n := 0) rfl rfl tyB rfl) (rv_cell (c' := cx) (n := 0) rfl rfl tyE rfl) (tup_le ⟨.of (by rw [Nat.min_eq_left (by omega)]), .of (by rw [decide_eq_true hle]), .refl _, trivial⟩) en

theorem t_Kids_out {D : List Int} {L : List (List Int)} {ts : List (Int × Int)} {a b : Int} {n k : Nat} (h : TrS D L ts n k) {s : List Int} (hb : 0 < b) (ha : 0 ≤ a) {mo : Nat} (hs : s.length + 1 ≤ n) (hmo : mo ≤ 65536) (hin : ¬ ptT D L ts s (n - 1) s.length ≤ (a : Rat) / (b : Rat)) : Fn Tryz.prog 20 [T.Tr D L ts a b k, T.l (cZi k) s, T.c (.int .i64 (mo : Int))] [] [] [] (T.tup [T.c (.slice none 0 0), T.c (.bool true), T.c (.int .i64 0)]) := by
  refine fn_ofM Tryz.func20 rfl (by show 3 ≤ 48; decide) fun cx hcx => ?_
  refine tri_sub (sl 0 rfl (sl 1 rfl (sl 2 rfl sn))) en ?_
  have hn12 := h.twelve
  have hkk := h.hk
  have hlL := h.len
  have hn0 := h.pos
  refine tri_seq ?_
  refine tri_reg mixed hcx ?_ _ _
  refine bxs 10 rfl ?_
  refine bx 11 rfl ?_
  refine nw 12 zeZs ?_
  refine nw 13 zeB ?_
  refine nw 14 zeE ?_
  refine ⟨by kernel_rfl, ?_⟩
  refine nx (sl 1 rfl (sl 3 rfl (sl 5 rfl (sl 6 rfl (sl 7 rfl (sl 8 rfl sn)))))) (el 10 rfl (el 11 rfl (el 12 rfl (el 13 rfl (el 14 rfl en))))) ?_
  refine tri_seq ?_
  refine tri_seq ?_
  refine tri_reg mixed hcx ?_ _ _
  refine ld rfl rfl tyTr rfl ?_
  refine mv rfl ?_
  refine fa rfl fTrG 0 ?_
  refine fa rfl fL 1 ?_
  refine ld rfl rfl tyZss rfl ?_
  refine ln slZss rfl ?_
  refine sb (((n - 1 : Nat) : Int)) rfl rfl rfl (by omega) ?_
  refine ld rfl rfl tyI rfl ?_
  refine ca rfl (h := t_counted h hb ha (m := n - 1) (by omega) (by omega) hmo) (hn := ?_)
  refine asg rfl ?_
  refine ⟨by kernel_rfl, ?_⟩
  refine nx (sl 1 rfl (sl 3 rfl (sl 5 rfl (sl 6 rfl (sl 7 rfl (sl 8 rfl (sl 9 rfl sn))))))) (el 10 rfl (el 11 rfl (el 12 rfl (el 13 rfl (el 14 rfl en))))) ?_
  refine tri_seq ?_
  refine tri_reg mixed hcx ?_ _ _
  refine mv rfl ?_
  refine cne rfl rfl (decide_eq_false (by omega)) ?_
  refine ⟨by kernel_rfl, ?_⟩
  refine nx (sl 1 rfl (sl 3 rfl (sl 5 rfl (sl 6 rfl (sl 7 rfl (sl 8 rfl (sl 9 rfl (sl 23 rfl sn)))))))) (el 10 rfl (el 11 rfl (el 12 rfl (el 13 rfl (el 14 rfl en))))) ?_
  refine tri_false rfl rfl ?_
  refine tri_skip ?_
  refine nx (sl 1 rfl (sl 3 rfl (sl 5 rfl (sl 6 rfl (sl 7 rfl (sl 8 rfl sn)))))) (el 10 rfl (el 11 rfl (el 12 rfl (el 13 rfl (el 14 rfl en))))) ?_
  refine tri_seq ?_
  refine tri_reg mixed hcx ?_ _ _
  refine ld rfl rfl tyTr rfl ?_
  refine mv rfl ?_
  refine ca rfl (h := t_part h (by omega)) (hn := ?_)
  refine nw 413 zeQ ?_
  refine st rfl rfl rfl tyQ rfl ?_
  refine ⟨by kernel_rfl, ?_⟩
  refine nx (sl 1 rfl (sl 3 rfl (sl 5 rfl (sl 6 rfl (sl 7 rfl (sl 8 rfl (sl 10 rfl sn))))))) (el 10 rfl (el 11 rfl (el 12 rfl (el 13 rfl (el 14 rfl (el 413 rfl en)))))) ?_
  refine tri_seq ?_
  refine tri_seq ?_
  refine tri_reg mixed hcx ?_ _ _
  refine ld rfl rfl tyTr rfl ?_
  refine ld rfl rfl tyQ rfl ?_
  refine cb rfl (h := t_within hb (by omega) (by omega)) (hn := ?_)
  refine nt rfl _ (show (!decide _) = true from by rw [decide_eq_false hin]; rfl) ?_
  refine ⟨by kernel_rfl, ?_⟩
  refine nx (sl 1 rfl (sl 3 rfl (sl 5 rfl (sl 6 rfl (sl 7 rfl (sl 8 rfl (sl 10 rfl (sl 31 rfl sn)))))))) (el 10 rfl (el 11 rfl (el 12 rfl (el 13 rfl (el 14 rfl (el 413 rfl en)))))) ?_
  refine tri_true rfl rfl ?_
  refine tri_seq ?_
  refine tri_reg mixed hcx ?_ _ _
  refine st rfl rfl rfl tyZs rfl ?_
  refine st rfl rfl rfl tyB rfl ?_
  refine st rfl rfl rfl tyE rfl ?_
  refine ⟨by kernel_rfl, ?_⟩
  refine nx (sl 6 rfl (sl 7 rfl (sl 8 rfl sn))) (el 10 rfl (el 11 rfl (el 12 rfl (el 13 rfl (el 14 rfl (el 413 rfl en)))))) ?_
  refine tri_ret ?_
  repeat (first | refine pn_thenr ?_ | refine pn_blkr ?_)
  refine ret_M0 (.inl rfl) ?_
  exact ret3 hcx rfl (rv_cell (c' := cx) (n := 0) rfl rfl tyZs rfl) (rv_cell (c' := cx) (n := 0) rfl rfl tyB rfl) (rv_cell (c' := cx) (n := 0) rfl rfl tyE rfl) (.refl _) en

theorem t_Kids_e {D : List Int} {L : List (List Int)} {ts : List (Int × Int)} {a b : Int} {k : Nat} {s : List Int} {mo r : Int} (hLl : L.length ≤ 1048576) (hr : r ≠ 0) (hf : Fn Tryz.prog 63 [T.Tr D L ts a b k, T.l (cZi k) s, T.c (.int .i64 ((L.length : Int) - 1)), T.c (.int .i64 mo)] [] [] [] (T.c (.int .i64 r))) : Fn Tryz.prog 20 [T.Tr D L ts a b k, T.l (cZi k) s, T.c (.int .i64 mo)] [] [] [] (T.tup [T.c (.slice none 0 0), T.c (.bool false), T.c (.int .i64 r)]) := by
  refine fn_ofM Tryz.func20 rfl (by show 3 ≤ 48; decide) fun cx hcx => ?_
  refine tri_sub (sl 0 rfl (sl 1 rfl (sl 2 rfl sn))) en ?_
  refine tri_seq ?_
  refine tri_reg mixed hcx ?_ _ _
  refine bxs 10 rfl ?_
  refine bx 11 rfl ?_
  refine nw 12 zeZs ?_
  refine nw 13 zeB ?_
  refine nw 14 zeE ?_
  refine ⟨by kernel_rfl, ?_⟩
  refine nx (sl 1 rfl (sl 3 rfl (sl 5 rfl (sl 6 rfl (sl 7 rfl (sl 8 rfl sn)))))) (el 10 rfl (el 11 rfl (el 12 rfl (el 13 rfl (el 14 rfl en))))) ?_
  refine tri_seq ?_
  refine tri_seq ?_
  refine tri_reg mixed hcx ?_ _ _
  refine ld rfl rfl tyTr rfl ?_
  refine mv rfl ?_
  refine fa rfl fTrG 0 ?_
  refine fa rfl fL 1 ?_
  refine ld rfl rfl tyZss rfl ?_
  refine ln slZss rfl ?_
  refine sb (((L.length : Int) - 1)) rfl rfl rfl (by omega) ?_
  refine ld rfl rfl tyI rfl ?_
  refine ca rfl (h := hf) (hn := ?_)
  refine asg rfl ?_
  refine ⟨by kernel_rfl, ?_⟩
  refine nx (sl 1 rfl (sl 3 rfl (sl 5 rfl (sl 6 rfl (sl 7 rfl (sl 8 rfl (sl 9 rfl sn))))))) (el 10 rfl (el 11 rfl (el 12 rfl (el 13 rfl (el 14 rfl en))))) ?_
  refine tri_seq ?_
  refine tri_reg mixed hcx ?_ _ _
  refine mv rfl ?_
  refine cne rfl rfl (decide_eq_true hr) ?_
  refine ⟨by kernel_rfl, ?_⟩
  refine nx (sl 1 rfl (sl 3 rfl (sl 5 rfl (sl 6 rfl (sl 7 rfl (sl 8 rfl (sl 9 rfl (sl 23 rfl sn)))))))) (el 10 rfl (el 11 rfl (el 12 rfl (el 13 rfl (el 14 rfl en))))) ?_
  refine tri_true rfl rfl ?_
  refine tri_seq ?_
  refine tri_reg mixed hcx ?_ _ _
  refine mv rfl ?_
  refine st rfl rfl rfl tyZs rfl ?_
  refine st rfl rfl rfl tyB rfl ?_
  refine st rfl rfl rfl tyE rfl ?_
  refine ⟨by kernel_rfl, ?_⟩
  refine nx (sl 6 rfl (sl 7 rfl (sl 8 rfl sn))) (el 10 rfl (el 11 rfl (el 12 rfl (el 13 rfl (el 14 rfl en))))) ?_
  refine tri_ret ?_
  repeat (first | refine pn_thenr ?_ | refine pn_blkr ?_)
  refine ret_M0 (.inl rfl) ?_
  exact ret3 hcx rfl (rv_cell (c' := cx) (n := 0) rfl rfl tyZs rfl) (rv_cell (c' := cx) (n := 0) rfl rfl tyB rfl) (rv_cell (c' := cx) (n := 0) rfl rfl tyE rfl) (.refl _) en

theorem r11_Kids {D : List Int} {L : List (List Int)} {ts : List (Int × Int)} {a b : Int} {n k : Nat} (h : TrS D L ts n k) {s : List Int} {m mo : Nat} (hb : 0 < b) (hs : s.length + 1 ≤ n) (hx : ∀ j, j ≤ m → zl (nth (ctT D L ts s (n - 1) (n - 1 - s.length) s.length) j) ≤ k) (hw : ∀ j, j < m → ptT D L ts (s ++ [nth (ctT D L ts s (n - 1) (n - 1 - s.length) s.length) j]) (n - 1) (s.length + 1) ≤ (a : Rat) / (b : Rat)) (hn : ¬ ptT D L ts (s ++ [nth (ctT D L ts s (n - 1) (n - 1 - s.length) s.length) m]) (n - 1) (s.length + 1) ≤ (a : Rat) / (b : Rat)) (hmo : mo ≤ 65536) (hin : ptT D L ts s (n - 1) s.length ≤ (a : Rat) / (b : Rat)) : Fn Tryz.prog 23 [T.Tr D L ts a b k, T.l (cZi k) s, T.c (.int .i64 (mo : Int))] [] [] [] (T.tup [T.l (cZ k) (kl (ctT D L ts s (n - 1) (n - 1 - s.length) s.length) (min m mo)), T.c (.bool (decide (m ≤ mo)))]) := by
  refine fn_of Tryz.func23 rfl (by show 3 ≤ 68; decide) fun cx hcx => ?_
  refine tri_sub (sl 0 rfl (sl 1 rfl (sl 2 rfl sn))) en ?_
  have hn12 := h.twelve
  have hkk := h.hk
  have hlL := h.len
  have hn0 := h.pos
  refine tri_lz 1 rfl fun hz => ?_
  refine tri_seq ?_
  refine tri_reg mixed hcx ?_ _ _
  refine bxs 10 rfl ?_
  refine asg rfl ?_
  refine asg rfl ?_
  refine ⟨by kernel_rfl, ?_⟩
  refine nx (sl 1 rfl (sl 2 rfl (sl 3 rfl sn))) (el 10 rfl en) ?_
  refine tri_seq ?_
  refine tri_reg mixed hcx ?_ _ _
  refine asg rfl ?_
  refine ⟨by kernel_rfl, ?_⟩
  refine nx (sl 1 rfl (sl 2 rfl (sl 3 rfl (sl 8 rfl sn)))) (el 10 rfl en) ?_
  refine tri_seq ?_
  refine tri_seq ?_
  refine tri_reg mixed hcx ?_ _ _
  refine ld rfl rfl tyTr rfl ?_
  refine mv rfl ?_
  refine ca rfl (h := r11_In h hb (by omega)) (hn := ?_)
  refine nt rfl _ (show (!decide _) = false from by rw [decide_eq_true hin]; rfl) ?_
  refine ⟨by kernel_rfl, ?_⟩
  refine nx (sl 1 rfl (sl 2 rfl (sl 3 rfl (sl 8 rfl (sl 19 rfl sn))))) (el 10 rfl en) ?_
  refine tri_false rfl rfl ?_
  refine tri_skip ?_
  refine nx (sl 1 rfl (sl 2 rfl (sl 3 rfl (sl 8 rfl sn)))) (el 10 rfl en) ?_
  refine tri_seq ?_
  refine tri_reg mixed hcx ?_ _ _
  refine ld rfl rfl tyTr rfl ?_
  refine mv rfl ?_
  refine ca rfl (h := r11_Centre h (by omega)) (hn := ?_)
  refine nw 413 zeQ ?_
  refine st rfl rfl rfl tyQ rfl ?_
  refine ⟨by kernel_rfl, ?_⟩
  refine nx (sl 1 rfl (sl 2 rfl (sl 3 rfl (sl 8 rfl (sl 9 rfl sn))))) (el 10 rfl (el 413 rfl en)) ?_
  refine tri_seq ?_
  refine tri_reg mixed hcx ?_ _ _
  refine ld rfl rfl tyTr rfl ?_
  refine mv rfl ?_
  refine ca rfl (h := r11_Part h (by omega)) (hn := ?_)
  refine nw 513 zeQ ?_
  refine st rfl rfl rfl tyQ rfl ?_
  refine ⟨by kernel_rfl, ?_⟩
  refine nx (sl 1 rfl (sl 2 rfl (sl 3 rfl (sl 8 rfl (sl 9 rfl (sl 10 rfl sn)))))) (el 10 rfl (el 413 rfl (el 513 rfl en))) ?_
  refine tri_seq ?_
  refine tri_reg mixed hcx ?_ _ _
  refine fa rfl fTrG 0 ?_
  refine ld rfl rfl tyG rfl ?_
  refine fa rfl fTrG 0 ?_
  refine fa rfl fL 1 ?_
  refine ld rfl rfl tyZss rfl ?_
  refine ln slZss rfl ?_
  refine sb (((n - 1 : Nat) : Int)) rfl rfl rfl (by omega) ?_
  refine mv rfl ?_
  refine ln slZs rfl ?_
  refine sb (((n - 1 - s.length : Nat) : Int)) rfl rfl rfl (by omega) ?_
  refine ca rfl (h := r05_Star (k := k) (i := n - 1 - s.length) (by omega) (by omega) h.good (by omega)) (hn := ?_)
  refine nw 621 zeQ ?_
  refine st rfl rfl rfl tyQ rfl ?_
  refine ⟨by kernel_rfl, ?_⟩
  refine nx (sl 2 rfl (sl 3 rfl (sl 8 rfl (sl 9 rfl (sl 10 rfl (sl 11 rfl sn)))))) (el 10 rfl (el 413 rfl (el 513 rfl (el 621 rfl en)))) ?_
  refine tri_seq ?_
  refine tri_nil 8 9 32 (cZ k) rfl (by rw [hcx]; kernel_rfl) ?_
  refine tri_reg mixed hcx ?_ _ _
  refine asg rfl ?_
  refine ⟨by kernel_rfl, ?_⟩
  refine nx (sl 2 rfl (sl 3 rfl (sl 8 rfl (sl 9 rfl (sl 10 rfl (sl 11 rfl (sl 12 rfl sn))))))) (el 10 rfl (el 413 rfl (el 513 rfl (el 621 rfl (el 9 rfl en))))) ?_
  refine tri_block ?_
  refine tri_loop (ι := Nat) (fun j => [(2, T.c (.int .i64 (mo : Int))), (3, T.p 10 0), (8, T.o 9), (9, T.p 413 0), (10, T.p 513 0), (11, T.p 621 0), (12, T.c (.int .i64 (j : Int)))]) (fun j => [(10, some (Ent.box 39 [T.l (cZi k) D, T.l (cL (cZi k)) L, T.l (cQi k) ts, T.Zi a k, T.Zi b k])), (413, some (Ent.box 34 [T.Q (ctT D L ts s (n - 1) (n - 1 - s.length) s.length) 600000000])), (513, some (Ent.box 34 [T.Q (ptT D L ts s (n - 1) s.length) 15100000000])), (621, some (Ent.box 34 [T.Q (stq D (n - 1 - s.length)) (k + k)])), (9, some (Ent.row (cZ k) 32 (kl (ctT D L ts s (n - 1) (n - 1 - s.length) s.length) j)))]) (fun j => m + 1 - j) (fun j => (j ≤ m) ∧ (j ≤ mo)) 0 ⟨Nat.zero_le _, Nat.zero_le _⟩ (sl 2 rfl (sl 3 rfl (sl 8 rfl (sl 9 rfl (sl 10 rfl (sl 11 rfl (sl 12 rfl sn))))))) (el 10 rfl (el 413 rfl (el 513 rfl (el 621 rfl (el 9 rfl en))))) ?_
  rintro j ⟨hj, hjo⟩
  refine tri_sub (sl 2 rfl (sl 3 rfl (sl 8 rfl (sl 9 rfl (sl 10 rfl (sl 11 rfl (sl 12 rfl sn))))))) (el 10 rfl (el 413 rfl (el 513 rfl (el 621 rfl (el 9 rfl en))))) ?_
  have hkl := @kl_len (ctT D L ts s (n - 1) (n - 1 - s.length) s.length) j
  have hqe := pt_snoc D L ts s (n - 1) (nth (ctT D L ts s (n - 1) (n - 1 - s.length) s.length) j)
  have hmn : j < m ∨ j = m := by omega
  refine tri_seq ?_
  refine tri_block ?_
  refine tri_seq ?_
  refine tri_reg mixed hcx ?_ _ _
  refine ld rfl rfl tyQ rfl ?_
  refine mv rfl ?_
  refine cb rfl (h := fn_out (r11_NthV (c := ctT D L ts s (n - 1) (n - 1 - s.length) s.length) (k := 600000000) (n := j) (by omega) (by omega)) (z_as (hx j (by omega)))) (hn := ?_)
  refine nw 913 zeZ ?_
  refine st rfl rfl rfl tyZ rfl ?_
  refine ⟨by kernel_rfl, ?_⟩
  refine nx (sl 2 rfl (sl 3 rfl (sl 8 rfl (sl 9 rfl (sl 10 rfl (sl 11 rfl (sl 12 rfl (sl 13 rfl sn)))))))) (el 10 rfl (el 413 rfl (el 513 rfl (el 621 rfl (el 9 rfl (el 913 rfl en)))))) ?_
  refine tri_seq ?_
  refine tri_reg mixed hcx ?_ _ _
  refine ld rfl rfl tyZ rfl ?_
  refine ca rfl (h := r03_Of (by omega)) (hn := ?_)
  refine ld rfl rfl tyQ rfl ?_
  refine cb rfl (h := r3v_Sub (by omega) (by omega)) (hn := ?_)
  refine nw 1014 zeQ ?_
  refine st rfl rfl rfl tyQ rfl ?_
  refine ⟨by kernel_rfl, ?_⟩
  refine nx (sl 2 rfl (sl 3 rfl (sl 8 rfl (sl 9 rfl (sl 10 rfl (sl 11 rfl (sl 12 rfl (sl 13 rfl (sl 14 rfl sn))))))))) (el 10 rfl (el 413 rfl (el 513 rfl (el 621 rfl (el 9 rfl (el 913 rfl (el 1014 rfl en))))))) ?_
  refine tri_seq ?_
  refine tri_reg mixed hcx ?_ _ _
  refine ld rfl rfl tyQ rfl ?_
  refine ld rfl rfl tyQ rfl ?_
  refine ld rfl rfl tyQ rfl ?_
  refine cb rfl (h := r3v_Mul (by omega) (by omega)) (hn := ?_)
  refine ld rfl rfl tyQ rfl ?_
  refine cb rfl (h := r3v_Mul (by omega) (by omega)) (hn := ?_)
  refine cb rfl (h := r3v_Add (by omega) (by omega)) (hn := ?_)
  refine nw 1117 zeQ ?_
  refine st rfl rfl rfl tyQ rfl ?_
  refine ⟨by kernel_rfl, ?_⟩
  refine nx (sl 2 rfl (sl 3 rfl (sl 8 rfl (sl 9 rfl (sl 10 rfl (sl 11 rfl (sl 12 rfl (sl 13 rfl (sl 15 rfl sn))))))))) (el 10 rfl (el 413 rfl (el 513 rfl (el 621 rfl (el 9 rfl (el 913 rfl (el 1014 rfl (el 1117 rfl en)))))))) ?_
  refine tri_seq ?_
  refine tri_seq ?_
  rcases hmn with hlt | heq
  · have hq1 : sg ((ptT D L ts s (n - 1) s.length + (((nth (ctT D L ts s (n - 1) (n - 1 - s.length) s.length) j : Int) : Rat) - ctT D L ts s (n - 1) (n - 1 - s.length) s.length) * (((nth (ctT D L ts s (n - 1) (n - 1 - s.length) s.length) j : Int) : Rat) - ctT D L ts s (n - 1) (n - 1 - s.length) s.length) * stq D (n - 1 - s.length)) - (a : Rat) / (b : Rat)).num ≤ 0 := sgq_le.2 (by rw [hqe]; exact hw j hlt)
    refine tri_reg mixed hcx ?_ _ _
    refine ld rfl rfl tyQ rfl ?_
    refine fa rfl fTrR 3 ?_
    refine ld rfl rfl tyQ rfl ?_
    refine cb rfl (h := r3v_Cmp (by omega) (by omega)) (hn := ?_)
    refine cgt rfl rfl (decide_eq_false (by omega)) ?_
    refine ⟨by kernel_rfl, ?_⟩
    refine nx (sl 2 rfl (sl 3 rfl (sl 8 rfl (sl 9 rfl (sl 10 rfl (sl 11 rfl (sl 12 rfl (sl 13 rfl (sl 57 rfl sn))))))))) (el 10 rfl (el 413 rfl (el 513 rfl (el 621 rfl (el 9 rfl (el 913 rfl (el 1014 rfl (el 1117 rfl en)))))))) ?_
    refine tri_false rfl rfl ?_
    refine tri_skip ?_
    refine nx (sl 2 rfl (sl 3 rfl (sl 8 rfl (sl 9 rfl (sl 10 rfl (sl 11 rfl (sl 12 rfl (sl 13 rfl sn)))))))) (el 10 rfl (el 413 rfl (el 513 rfl (el 621 rfl (el 9 rfl (el 913 rfl (el 1014 rfl (el 1117 rfl en)))))))) ?_
    refine tri_seq ?_
    refine tri_seq ?_
    rcases Nat.lt_or_ge j mo with hm2 | hm2
    · refine tri_reg mixed hcx ?_ _ _
      refine mv rfl ?_
      refine lno slZs rfl rfl ?_
      refine mv rfl ?_
      refine cge rfl rfl (decide_eq_false (by omega)) ?_
      refine ⟨by kernel_rfl, ?_⟩
      refine nx (sl 2 rfl (sl 3 rfl (sl 8 rfl (sl 9 rfl (sl 10 rfl (sl 11 rfl (sl 12 rfl (sl 13 rfl (sl 62 rfl sn))))))))) (el 10 rfl (el 413 rfl (el 513 rfl (el 621 rfl (el 9 rfl (el 913 rfl (el 1014 rfl (el 1117 rfl en)))))))) ?_
      refine tri_false rfl rfl ?_
      refine tri_skip ?_
      refine nx (sl 2 rfl (sl 3 rfl (sl 8 rfl (sl 9 rfl (sl 10 rfl (sl 11 rfl (sl 12 rfl (sl 13 rfl sn)))))))) (el 10 rfl (el 413 rfl (el 513 rfl (el 621 rfl (el 9 rfl (el 913 rfl (el 1014 rfl (el 1117 rfl en)))))))) ?_
      refine tri_reg mixed hcx ?_ _ _
      refine mv rfl ?_
      refine ld rfl rfl tyZ rfl ?_
      refine bs (c := cZ k) (xs := [nth (ctT D L ts s (n - 1) (n - 1 - s.length) s.length) j]) slZs rfl ⟨z_as (hx j (by omega)), trivial⟩ ?_
      refine ap 1613 rfl rfl rfl slZs (by simp only [List.length_cons, List.length_nil]; omega) (by decide) ?_
      refine asg rfl ?_
      refine ⟨by kernel_rfl, ?_⟩
      refine pn_blk ?_
      refine nx (sl 2 rfl (sl 3 rfl (sl 8 rfl (sl 9 rfl (sl 10 rfl (sl 11 rfl (sl 12 rfl sn))))))) (el 10 rfl (el 413 rfl (el 513 rfl (el 621 rfl (el 913 rfl (el 1014 rfl (el 1117 rfl (el 1613 rfl en)))))))) ?_
      refine tri_reg mixed hcx ?_ _ _
      refine mv rfl ?_
      refine ad (((j + 1 : Nat) : Int)) rfl rfl rfl (by omega) ?_
      refine asg rfl ?_
      refine ⟨by kernel_rfl, ?_⟩
      refine pn_sub (sl 2 rfl (sl 3 rfl (sl 8 rfl (sl 9 rfl (sl 10 rfl (sl 11 rfl (sl 12 rfl sn))))))) (el 10 rfl (el 413 rfl (el 513 rfl (el 621 rfl (el 913 rfl (el 1014 rfl (el 1117 rfl (el 1613 rfl en)))))))) ?_
      refine pn_ren 8 9 1613 rfl rfl (by rw [hcx]; kernel_rfl) ?_
      exact pn_back (j + 1) (by first | omega | (dsimp only; omega)) ⟨by omega, by omega⟩ (sl 2 rfl (sl 3 rfl (sl 8 rfl (sl 9 rfl (sl 10 rfl (sl 11 rfl (sl 12 rfl sn))))))) (el 10 rfl (el 413 rfl (el 513 rfl (el 621 rfl (ew 9 rfl (.of (by rw [kl_succ])) en)))))
    · obtain rfl : j = mo := by omega
      refine tri_reg mixed hcx ?_ _ _
      refine mv rfl ?_
      refine lno slZs rfl rfl ?_
      refine mv rfl ?_
      refine cge rfl rfl (decide_eq_true (by omega)) ?_
      refine ⟨by kernel_rfl, ?_⟩
      refine nx (sl 2 rfl (sl 3 rfl (sl 8 rfl (sl 9 rfl (sl 10 rfl (sl 11 rfl (sl 12 rfl (sl 13 rfl (sl 62 rfl sn))))))))) (el 10 rfl (el 413 rfl (el 513 rfl (el 621 rfl (el 9 rfl (el 913 rfl (el 1014 rfl (el 1117 rfl en)))))))) ?_
      refine tri_true rfl rfl ?_
      refine tri_seq ?_
      refine tri_reg mixed hcx ?_ _ _
      refine mv rfl ?_
      refine asg rfl ?_
      refine asg rfl ?_
      refine ⟨by kernel_rfl, ?_⟩
      refine nx (sl 6 rfl (sl 7 rfl sn)) (el 10 rfl (el 413 rfl (el 513 rfl (el 621 rfl (el 9 rfl (el 913 rfl (el 1014 rfl (el 1117 rfl en)))))))) ?_
      refine tri_fz 9 rfl ?_
      refine tri_rd 6 9 rfl rfl ?_
      refine tri_ret ?_
      repeat (first | refine pn_thenr ?_ | refine pn_blkr ?_)
      exact ret2 hcx rfl (rv_tmp rfl) (rv_tmp rfl) (tup_le ⟨.of (by rw [Nat.min_eq_right (by omega)]), .of (by rw [decide_eq_false (by omega)]), trivial⟩) en
  · have hq1 : 0 < sg ((ptT D L ts s (n - 1) s.length + (((nth (ctT D L ts s (n - 1) (n - 1 - s.length) s.length) j : Int) : Rat) - ctT D L ts s (n - 1) (n - 1 - s.length) s.length) * (((nth (ctT D L ts s (n - 1) (n - 1 - s.length) s.length) j : Int) : Rat) - ctT D L ts s (n - 1) (n - 1 - s.length) s.length) * stq D (n - 1 - s.length)) - (a : Rat) / (b : Rat)).num := by rw [hqe]; exact sgq_gt (Rat.not_le.1 (by rw [heq]; exact hn))
    refine tri_reg mixed hcx ?_ _ _
    refine ld rfl rfl tyQ rfl ?_
    refine fa rfl fTrR 3 ?_
    refine ld rfl rfl tyQ rfl ?_
    refine cb rfl (h := r3v_Cmp (by omega) (by omega)) (hn := ?_)
    refine cgt rfl rfl (decide_eq_true (by omega)) ?_
    refine ⟨by kernel_rfl, ?_⟩
    refine nx (sl 2 rfl (sl 3 rfl (sl 8 rfl (sl 9 rfl (sl 10 rfl (sl 11 rfl (sl 12 rfl (sl 13 rfl (sl 57 rfl sn))))))))) (el 10 rfl (el 413 rfl (el 513 rfl (el 621 rfl (el 9 rfl (el 913 rfl (el 1014 rfl (el 1117 rfl en)))))))) ?_
    refine tri_true rfl rfl ?_
    refine tri_seq ?_
    refine tri_reg mixed hcx ?_ _ _
    refine mv rfl ?_
    refine asg rfl ?_
    refine asg rfl ?_
    refine ⟨by kernel_rfl, ?_⟩
    refine nx (sl 6 rfl (sl 7 rfl sn)) (el 10 rfl (el 413 rfl (el 513 rfl (el 621 rfl (el 9 rfl (el 913 rfl (el 1014 rfl (el 1117 rfl en)))))))) ?_
    refine tri_fz 9 rfl ?_
    refine tri_rd 6 9 rfl rfl ?_
    refine tri_ret ?_
    repeat (first | refine pn_thenr ?_ | refine pn_blkr ?_)
    exact ret2 hcx rfl (rv_tmp rfl) (rv_tmp rfl) (tup_le ⟨.of (by rw [heq, Nat.min_eq_left (by omega)]), .of (by rw [decide_eq_true (by omega)]), trivial⟩) en

theorem r11_Kids_out {D : List Int} {L : List (List Int)} {ts : List (Int × Int)} {a b : Int} {n k : Nat} (h : TrS D L ts n k) {s : List Int} (hb : 0 < b) (ha : 0 ≤ a) {mo : Nat} (hs : s.length + 1 ≤ n) (hin : ¬ ptT D L ts s (n - 1) s.length ≤ (a : Rat) / (b : Rat)) : Fn Tryz.prog 23 [T.Tr D L ts a b k, T.l (cZi k) s, T.c (.int .i64 (mo : Int))] [] [] [] (T.tup [T.c (.slice none 0 0), T.c (.bool true)]) := by
  refine fn_of Tryz.func23 rfl (by show 3 ≤ 68; decide) fun cx hcx => ?_
  refine tri_sub (sl 0 rfl (sl 1 rfl (sl 2 rfl sn))) en ?_
  have hn12 := h.twelve
  have hkk := h.hk
  have hlL := h.len
  have hn0 := h.pos
  refine tri_seq ?_
  refine tri_reg mixed hcx ?_ _ _
  refine bxs 10 rfl ?_
  refine asg rfl ?_
  refine asg rfl ?_
  refine ⟨by kernel_rfl, ?_⟩
  refine nx (sl 1 rfl (sl 2 rfl (sl 3 rfl sn))) (el 10 rfl en) ?_
  refine tri_seq ?_
  refine tri_reg mixed hcx ?_ _ _
  refine asg rfl ?_
  refine ⟨by kernel_rfl, ?_⟩
  refine nx (sl 1 rfl (sl 2 rfl (sl 3 rfl (sl 8 rfl sn)))) (el 10 rfl en) ?_
  refine tri_seq ?_
  refine tri_seq ?_
  refine tri_reg mixed hcx ?_ _ _
  refine ld rfl rfl tyTr rfl ?_
  refine mv rfl ?_
  refine ca rfl (h := r11_In h hb (by omega)) (hn := ?_)
  refine nt rfl _ (show (!decide _) = true from by rw [decide_eq_false hin]; rfl) ?_
  refine ⟨by kernel_rfl, ?_⟩
  refine nx (sl 1 rfl (sl 2 rfl (sl 3 rfl (sl 8 rfl (sl 19 rfl sn))))) (el 10 rfl en) ?_
  refine tri_true rfl rfl ?_
  refine tri_seq ?_
  refine tri_reg mixed hcx ?_ _ _
  refine asg rfl ?_
  refine asg rfl ?_
  refine ⟨by kernel_rfl, ?_⟩
  refine nx (sl 6 rfl (sl 7 rfl sn)) (el 10 rfl en) ?_
  refine tri_ret ?_
  repeat (first | refine pn_thenr ?_ | refine pn_blkr ?_)
  exact ret2 hcx rfl (rv_tmp rfl) (rv_tmp rfl) (.refl _) en

theorem l11_wholes {l : List Int} {k k2 : Nat} (hl : l.length ≤ 1048576) (hk : k ≤ 17592186044416) (hk2 : k2 ≤ 17592186044416) : Fn Tryz.prog 24 [T.l (cZ k) l, T.l (cZ k2) l] [] [] [] (T.c (.bool true)) := by
  refine fn_of Tryz.func24 rfl (by show 2 ≤ 28; decide) fun cx hcx => ?_
  refine tri_sub (sl 0 rfl (sl 1 rfl sn)) en ?_
  refine tri_seq ?_
  refine tri_reg mixed hcx ?_ _ _
  refine asg rfl ?_
  refine ⟨by kernel_rfl, ?_⟩
  refine nx (sl 0 rfl (sl 1 rfl sn)) en ?_
  refine tri_seq ?_
  refine tri_seq ?_
  refine tri_reg mixed hcx ?_ _ _
  refine mv rfl ?_
  refine ln slZs rfl ?_
  refine mv rfl ?_
  refine ln slZs rfl ?_
  refine cne rfl rfl (decide_eq_false (by omega)) ?_
  refine ⟨by kernel_rfl, ?_⟩
  refine nx (sl 0 rfl (sl 1 rfl (sl 10 rfl sn))) en ?_
  refine tri_false rfl rfl ?_
  refine tri_skip ?_
  refine nx (sl 0 rfl (sl 1 rfl sn)) en ?_
  refine tri_seq ?_
  refine tri_seq ?_
  refine tri_reg mixed hcx ?_ _ _
  refine asg rfl ?_
  refine ⟨by kernel_rfl, ?_⟩
  refine nx (sl 0 rfl (sl 1 rfl (sl 5 rfl sn))) en ?_
  refine tri_block ?_
  refine tri_loop (ι := Nat) (fun i => [(0, T.l (cZ k) l), (1, T.l (cZ k2) l), (5, T.c (.int .i64 (i : Int)))]) (fun i => []) (fun i => l.length - i) (fun i => (i ≤ l.length)) 0 (Nat.zero_le _) (sl 0 rfl (sl 1 rfl (sl 5 rfl sn))) en ?_
  rintro i hi
  refine tri_sub (sl 0 rfl (sl 1 rfl (sl 5 rfl sn))) en ?_
  refine tri_seq ?_
  refine tri_seq ?_
  refine tri_reg mixed hcx ?_ _ _
  refine mv rfl ?_
  refine mv rfl ?_
  refine ln slZs rfl ?_
  refine clt rfl rfl rfl ?_
  refine ⟨by kernel_rfl, ?_⟩
  refine nx (sl 0 rfl (sl 1 rfl (sl 5 rfl (sl 14 rfl sn)))) en ?_
  refine tri_if rfl (fun hc => ?_) (fun hc => ?_)
  · refine tri_skip ?_
    refine nx (sl 0 rfl (sl 1 rfl (sl 5 rfl sn))) en ?_
    refine tri_seq ?_
    refine tri_block ?_
    refine tri_seq ?_
    refine tri_reg mixed hcx ?_ _ _
    refine mv rfl ?_
    refine mv rfl ?_
    refine ix rfl rfl slZs ⟨rfl, by omega⟩ ?_
    refine lf rfl tyZ ?_
    refine mv rfl ?_
    refine mv rfl ?_
    refine ix rfl rfl slZs ⟨rfl, by omega⟩ ?_
    refine lf rfl tyZ ?_
    refine ca rfl (h := r02_Norm (by omega)) (hn := ?_)
    refine ca rfl (h := l11_whole (by omega)) (hn := ?_)
    refine nt rfl _ rfl ?_
    refine ⟨by kernel_rfl, ?_⟩
    refine nx (sl 0 rfl (sl 1 rfl (sl 5 rfl (sl 27 rfl sn)))) en ?_
    refine tri_false rfl rfl ?_
    refine tri_skip ?_
    refine pn_blk ?_
    refine nx (sl 0 rfl (sl 1 rfl (sl 5 rfl sn))) en ?_
    refine tri_reg mixed hcx ?_ _ _
    refine mv rfl ?_
    refine ad (((i + 1 : Nat) : Int)) rfl rfl rfl (by omega) ?_
    refine asg rfl ?_
    refine ⟨by kernel_rfl, ?_⟩
    exact pn_back (i + 1) (by first | omega | (dsimp only; omega)) (by omega) (sl 0 rfl (sl 1 rfl (sl 5 rfl sn))) en
  · refine tri_exit ?_
    repeat (first | refine pn_then ?_ | refine pn_oth (by decide) ?_)
    refine pn_ex ?_
    refine nx sn en ?_
    refine tri_seq ?_
    refine tri_reg mixed hcx ?_ _ _
    refine asg rfl ?_
    refine ⟨by kernel_rfl, ?_⟩
    refine nx (sl 4 rfl sn) en ?_
    refine tri_ret ?_
    repeat (first | refine pn_thenr ?_ | refine pn_blkr ?_)
    exact ret1 hcx rfl (rv_tmp rfl) (.refl _) en

theorem t_counted_e {D : List Int} {L : List (List Int)} {ts : List (Int × Int)} {a b : Int} {k : Nat} {s : List Int} {m mo r : Int} (hr : r ≠ 0) (hf : Fn Tryz.prog 59 [T.Tr D L ts a b k, T.l (cZi k) s, T.c (.int .i64 m)] [] [] [] (T.c (.int .i64 r))) : Fn Tryz.prog 63 [T.Tr D L ts a b k, T.l (cZi k) s, T.c (.int .i64 m), T.c (.int .i64 mo)] [] [] [] (T.c (.int .i64 r)) := by
  refine fn_of Tryz.func63 rfl (by show 4 ≤ 23; decide) fun cx hcx => ?_
  refine tri_sub (sl 0 rfl (sl 1 rfl (sl 2 rfl (sl 3 rfl sn)))) en ?_
  refine tri_seq ?_
  refine tri_reg mixed hcx ?_ _ _
  refine bxs 10 rfl ?_
  refine asg rfl ?_
  refine ⟨by kernel_rfl, ?_⟩
  refine nx (sl 1 rfl (sl 2 rfl (sl 3 rfl (sl 4 rfl sn)))) (el 10 rfl en) ?_
  refine tri_seq ?_
  refine tri_seq ?_
  refine tri_reg mixed hcx ?_ _ _
  refine ld rfl rfl tyTr rfl ?_
  refine mv rfl ?_
  refine mv rfl ?_
  refine ca rfl (h := hf) (hn := ?_)
  refine asg rfl ?_
  refine ⟨by kernel_rfl, ?_⟩
  refine nx (sl 3 rfl (sl 9 rfl sn)) (el 10 rfl en) ?_
  refine tri_seq ?_
  refine tri_reg mixed hcx ?_ _ _
  refine mv rfl ?_
  refine cne rfl rfl (decide_eq_true hr) ?_
  refine ⟨by kernel_rfl, ?_⟩
  refine nx (sl 3 rfl (sl 9 rfl (sl 15 rfl sn))) (el 10 rfl en) ?_
  refine tri_true rfl rfl ?_
  refine tri_seq ?_
  refine tri_reg mixed hcx ?_ _ _
  refine mv rfl ?_
  refine asg rfl ?_
  refine ⟨by kernel_rfl, ?_⟩
  refine nx (sl 8 rfl sn) (el 10 rfl en) ?_
  refine tri_ret ?_
  repeat (first | refine pn_thenr ?_ | refine pn_blkr ?_)
  exact ret1 hcx rfl (rv_tmp rfl) (.refl _) en

theorem t_kl1 {D : List Int} {L : List (List Int)} {ts : List (Int × Int)} {a b : Int} {k : Nat} (hk : k ≤ 16777216) (hLl : L.length ≤ 1048576) (hDl : D.length ≤ 1048576) (htl : ts.length ≤ 1048576) {s : List Int} {mo : Int} (hV : ¬ TrV D L ts a b) : Fn Tryz.prog 4 [T.Tr D L ts a b k, T.l (cZi k) s, T.c (.int .i64 mo)] [] [] [] (T.c (.bool true)) := by
  refine fn_of Tryz.func4 rfl (by show 3 ≤ 85; decide) fun cx hcx => ?_
  refine tri_sub (sl 0 rfl (sl 1 rfl (sl 2 rfl sn))) en ?_
  refine tri_seq ?_
  refine tri_reg mixed hcx ?_ _ _
  refine bxs 10 rfl ?_
  refine asg rfl ?_
  refine ⟨by kernel_rfl, ?_⟩
  refine nx (sl 1 rfl (sl 2 rfl (sl 3 rfl sn))) (el 10 rfl en) ?_
  refine tri_seq ?_
  refine tri_reg mixed hcx ?_ _ _
  refine ld rfl rfl tyTr rfl ?_
  refine mv rfl ?_
  refine mv rfl ?_
  refine ca rfl (h := t_Kids_e hLl (by decide) (t_counted_e (by decide) (t_fits_bad hk hLl hDl htl hV))) (hn := ?_)
  refine mv rfl ?_
  refine ex rfl rfl ?_
  refine ex rfl rfl ?_
  refine ex rfl rfl ?_
  refine asg rfl ?_
  refine asg rfl ?_
  refine asg rfl ?_
  refine ⟨by kernel_rfl, ?_⟩
  refine nx (sl 1 rfl (sl 2 rfl (sl 3 rfl (sl 7 rfl (sl 8 rfl (sl 9 rfl sn)))))) (el 10 rfl en) ?_
  refine tri_seq ?_
  refine tri_seq ?_
  refine tri_reg mixed hcx ?_ _ _
  refine ld rfl rfl tyTr rfl ?_
  refine ca rfl (h := r11_Valid_no hk hLl hDl htl hV) (hn := ?_)
  refine nt rfl _ rfl ?_
  refine ⟨by kernel_rfl, ?_⟩
  refine nx (sl 1 rfl (sl 2 rfl (sl 3 rfl (sl 7 rfl (sl 8 rfl (sl 9 rfl (sl 22 rfl sn))))))) (el 10 rfl en) ?_
  refine tri_true rfl rfl ?_
  refine tri_seq ?_
  refine tri_reg mixed hcx ?_ _ _
  refine mv rfl ?_
  refine ceq rfl rfl rfl ?_
  refine mv rfl ?_
  refine mv rfl ?_ (hg := gd1)
  refine ln slZs rfl ?_ (hg := gd1)
  refine ceq rfl rfl rfl ?_ (hg := gd1)
  refine pk rfl rfl ?_
  refine mv rfl ?_
  refine mv rfl ?_ (hg := gd1)
  refine nt rfl _ rfl ?_ (hg := gd1)
  refine pk rfl rfl ?_
  refine mv rfl ?_
  refine ca rfl (h := l11_awake) (hn := ?_) (hg := gd1)
  refine pk rfl rfl ?_
  refine asg rfl ?_
  refine ⟨by kernel_rfl, ?_⟩
  refine nx (sl 6 rfl sn) (el 10 rfl en) ?_
  refine tri_ret ?_
  repeat (first | refine pn_thenr ?_ | refine pn_blkr ?_)
  exact ret1 hcx rfl (rv_tmp rfl) (.refl _) en

theorem t_kl2 {D : List Int} {L : List (List Int)} {ts : List (Int × Int)} {a b : Int} {n k : Nat} (h : TrS D L ts n k) {s : List Int} (hb : 0 < b) (ha : 0 ≤ a) (hDl : D.length ≤ 1048576) (htl : ts.length ≤ 1048576) (hsl : s.length ≤ 1048576) {mo : Int} (hs : n ≤ s.length) : Fn Tryz.prog 4 [T.Tr D L ts a b k, T.l (cZi k) s, T.c (.int .i64 mo)] [] [] [] (T.c (.bool true)) := by
  refine fn_of Tryz.func4 rfl (by show 3 ≤ 85; decide) fun cx hcx => ?_
  refine tri_sub (sl 0 rfl (sl 1 rfl (sl 2 rfl sn))) en ?_
  have hn12 := h.twelve
  have hkk := h.hk
  have hlL := h.len
  have hn0 := h.pos
  have hfc := t_fits_no (s := s) h hb ha (m := L.length - 1) (by omega) hsl
  rw [show ((L.length - 1 : Nat) : Int) = (L.length : Int) - 1 by omega] at hfc
  refine tri_seq ?_
  refine tri_reg mixed hcx ?_ _ _
  refine bxs 10 rfl ?_
  refine asg rfl ?_
  refine ⟨by kernel_rfl, ?_⟩
  refine nx (sl 1 rfl (sl 2 rfl (sl 3 rfl sn))) (el 10 rfl en) ?_
  refine tri_seq ?_
  refine tri_reg mixed hcx ?_ _ _
  refine ld rfl rfl tyTr rfl ?_
  refine mv rfl ?_
  refine mv rfl ?_
  refine ca rfl (h := t_Kids_e (by omega) (by decide) (t_counted_e (by decide) hfc)) (hn := ?_)
  refine mv rfl ?_
  refine ex rfl rfl ?_
  refine ex rfl rfl ?_
  refine ex rfl rfl ?_
  refine asg rfl ?_
  refine asg rfl ?_
  refine asg rfl ?_
  refine ⟨by kernel_rfl, ?_⟩
  refine nx (sl 1 rfl (sl 2 rfl (sl 3 rfl (sl 7 rfl (sl 8 rfl (sl 9 rfl sn)))))) (el 10 rfl en) ?_
  refine tri_seq ?_
  refine tri_seq ?_
  refine tri_reg mixed hcx ?_ _ _
  refine ld rfl rfl tyTr rfl ?_
  refine ca rfl (h := r11_Valid7 h.hk (by omega) hDl htl h.good (by omega) (by rw [hlL]; exact h.tl) h.tp hb ha) (hn := ?_)
  refine nt rfl _ rfl ?_
  refine ⟨by kernel_rfl, ?_⟩
  refine nx (sl 1 rfl (sl 2 rfl (sl 3 rfl (sl 7 rfl (sl 8 rfl (sl 9 rfl (sl 22 rfl sn))))))) (el 10 rfl en) ?_
  refine tri_false rfl rfl ?_
  refine tri_skip ?_
  refine nx (sl 1 rfl (sl 2 rfl (sl 3 rfl (sl 7 rfl (sl 8 rfl (sl 9 rfl sn)))))) (el 10 rfl en) ?_
  refine tri_seq ?_
  refine tri_seq ?_
  refine tri_reg mixed hcx ?_ _ _
  refine ld rfl rfl tyTr rfl ?_
  refine mv rfl ?_
  refine ca rfl (h := l11_fits_ge (by omega) hsl (by omega)) (hn := ?_)
  refine nt rfl _ rfl ?_
  refine mv rfl ?_
  refine j_off rfl rfl rfl rfl ?_
  refine j_off rfl rfl rfl rfl ?_
  refine pk rfl rfl ?_
  refine mv rfl ?_
  refine j_off rfl rfl rfl rfl ?_
  refine j_off rfl rfl rfl rfl ?_
  refine pk rfl rfl ?_
  refine ⟨by kernel_rfl, ?_⟩
  refine nx (sl 1 rfl (sl 2 rfl (sl 3 rfl (sl 7 rfl (sl 8 rfl (sl 9 rfl (sl 48 rfl sn))))))) (el 10 rfl en) ?_
  refine tri_true rfl rfl ?_
  refine tri_seq ?_
  refine tri_reg mixed hcx ?_ _ _
  refine mv rfl ?_
  refine ceq rfl rfl rfl ?_
  refine mv rfl ?_
  refine mv rfl ?_ (hg := gd1)
  refine ln slZs rfl ?_ (hg := gd1)
  refine ceq rfl rfl rfl ?_ (hg := gd1)
  refine pk rfl rfl ?_
  refine mv rfl ?_
  refine mv rfl ?_ (hg := gd1)
  refine nt rfl _ rfl ?_ (hg := gd1)
  refine pk rfl rfl ?_
  refine mv rfl ?_
  refine ca rfl (h := l11_awake) (hn := ?_) (hg := gd1)
  refine pk rfl rfl ?_
  refine asg rfl ?_
  refine ⟨by kernel_rfl, ?_⟩
  refine nx (sl 6 rfl sn) (el 10 rfl en) ?_
  refine tri_ret ?_
  repeat (first | refine pn_thenr ?_ | refine pn_blkr ?_)
  exact ret1 hcx rfl (rv_tmp rfl) (.refl _) en

theorem t_kl3 {D : List Int} {L : List (List Int)} {ts : List (Int × Int)} {a b : Int} {n k : Nat} (h : TrS D L ts n k) {s : List Int} (hb : 0 < b) (ha : 0 ≤ a) (hDl : D.length ≤ 1048576) (htl : ts.length ≤ 1048576) (hsl : s.length ≤ 1048576) {mo : Int} (hs : s.length < n) (hmo : mo < 0 ∨ 65536 < mo) : Fn Tryz.prog 4 [T.Tr D L ts a b k, T.l (cZi k) s, T.c (.int .i64 mo)] [] [] [] (T.c (.bool true)) := by
  refine fn_of Tryz.func4 rfl (by show 3 ≤ 85; decide) fun cx hcx => ?_
  refine tri_sub (sl 0 rfl (sl 1 rfl (sl 2 rfl sn))) en ?_
  have hn12 := h.twelve
  have hkk := h.hk
  have hlL := h.len
  have hn0 := h.pos
  have hfc := t_counted_no (s := s) h hb ha (m := L.length - 1) (by omega) hsl hmo
  rw [show ((L.length - 1 : Nat) : Int) = (L.length : Int) - 1 by omega] at hfc
  refine tri_seq ?_
  refine tri_reg mixed hcx ?_ _ _
  refine bxs 10 rfl ?_
  refine asg rfl ?_
  refine ⟨by kernel_rfl, ?_⟩
  refine nx (sl 1 rfl (sl 2 rfl (sl 3 rfl sn))) (el 10 rfl en) ?_
  refine tri_seq ?_
  refine tri_reg mixed hcx ?_ _ _
  refine ld rfl rfl tyTr rfl ?_
  refine mv rfl ?_
  refine mv rfl ?_
  refine ca rfl (h := t_Kids_e (by omega) (by decide) hfc) (hn := ?_)
  refine mv rfl ?_
  refine ex rfl rfl ?_
  refine ex rfl rfl ?_
  refine ex rfl rfl ?_
  refine asg rfl ?_
  refine asg rfl ?_
  refine asg rfl ?_
  refine ⟨by kernel_rfl, ?_⟩
  refine nx (sl 1 rfl (sl 2 rfl (sl 3 rfl (sl 7 rfl (sl 8 rfl (sl 9 rfl sn)))))) (el 10 rfl en) ?_
  refine tri_seq ?_
  refine tri_seq ?_
  refine tri_reg mixed hcx ?_ _ _
  refine ld rfl rfl tyTr rfl ?_
  refine ca rfl (h := r11_Valid7 h.hk (by omega) hDl htl h.good (by omega) (by rw [hlL]; exact h.tl) h.tp hb ha) (hn := ?_)
  refine nt rfl _ rfl ?_
  refine ⟨by kernel_rfl, ?_⟩
  refine nx (sl 1 rfl (sl 2 rfl (sl 3 rfl (sl 7 rfl (sl 8 rfl (sl 9 rfl (sl 22 rfl sn))))))) (el 10 rfl en) ?_
  refine tri_false rfl rfl ?_
  refine tri_skip ?_
  refine nx (sl 1 rfl (sl 2 rfl (sl 3 rfl (sl 7 rfl (sl 8 rfl (sl 9 rfl sn)))))) (el 10 rfl en) ?_
  refine tri_seq ?_
  refine tri_seq ?_
  by_cases hneg : mo < 0
  · refine tri_reg mixed hcx ?_ _ _
    refine ld rfl rfl tyTr rfl ?_
    refine mv rfl ?_
    refine ca rfl (h := l11_fits_lt (by omega) hsl (by omega)) (hn := ?_)
    refine nt rfl _ rfl ?_
    refine mv rfl ?_
    refine mv rfl ?_ (hg := gd1)
    refine clt rfl rfl (decide_eq_true (by omega)) ?_ (hg := gd1)
    refine pk rfl rfl ?_
    refine mv rfl ?_
    refine j_off rfl rfl rfl rfl ?_
    refine j_off rfl rfl rfl rfl ?_
    refine pk rfl rfl ?_
    refine ⟨by kernel_rfl, ?_⟩
    refine nx (sl 1 rfl (sl 2 rfl (sl 3 rfl (sl 7 rfl (sl 8 rfl (sl 9 rfl (sl 48 rfl sn))))))) (el 10 rfl en) ?_
    refine tri_true rfl rfl ?_
    refine tri_seq ?_
    refine tri_reg mixed hcx ?_ _ _
    refine mv rfl ?_
    refine ceq rfl rfl rfl ?_
    refine mv rfl ?_
    refine mv rfl ?_ (hg := gd1)
    refine ln slZs rfl ?_ (hg := gd1)
    refine ceq rfl rfl rfl ?_ (hg := gd1)
    refine pk rfl rfl ?_
    refine mv rfl ?_
    refine mv rfl ?_ (hg := gd1)
    refine nt rfl _ rfl ?_ (hg := gd1)
    refine pk rfl rfl ?_
    refine mv rfl ?_
    refine ca rfl (h := l11_awake) (hn := ?_) (hg := gd1)
    refine pk rfl rfl ?_
    refine asg rfl ?_
    refine ⟨by kernel_rfl, ?_⟩
    refine nx (sl 6 rfl sn) (el 10 rfl en) ?_
    refine tri_ret ?_
    repeat (first | refine pn_thenr ?_ | refine pn_blkr ?_)
    exact ret1 hcx rfl (rv_tmp rfl) (.refl _) en
  · refine tri_reg mixed hcx ?_ _ _
    refine ld rfl rfl tyTr rfl ?_
    refine mv rfl ?_
    refine ca rfl (h := l11_fits_lt (by omega) hsl (by omega)) (hn := ?_)
    refine nt rfl _ rfl ?_
    refine mv rfl ?_
    refine mv rfl ?_ (hg := gd1)
    refine clt rfl rfl (decide_eq_false (by omega)) ?_ (hg := gd1)
    refine pk rfl rfl ?_
    refine mv rfl ?_
    refine mv rfl ?_ (hg := gd1)
    refine cgt rfl rfl (decide_eq_true (by omega)) ?_ (hg := gd1)
    refine pk rfl rfl ?_
    refine ⟨by kernel_rfl, ?_⟩
    refine nx (sl 1 rfl (sl 2 rfl (sl 3 rfl (sl 7 rfl (sl 8 rfl (sl 9 rfl (sl 48 rfl sn))))))) (el 10 rfl en) ?_
    refine tri_true rfl rfl ?_
    refine tri_seq ?_
    refine tri_reg mixed hcx ?_ _ _
    refine mv rfl ?_
    refine ceq rfl rfl rfl ?_
    refine mv rfl ?_
    refine mv rfl ?_ (hg := gd1)
    refine ln slZs rfl ?_ (hg := gd1)
    refine ceq rfl rfl rfl ?_ (hg := gd1)
    refine pk rfl rfl ?_
    refine mv rfl ?_
    refine mv rfl ?_ (hg := gd1)
    refine nt rfl _ rfl ?_ (hg := gd1)
    refine pk rfl rfl ?_
    refine mv rfl ?_
    refine ca rfl (h := l11_awake) (hn := ?_) (hg := gd1)
    refine pk rfl rfl ?_
    refine asg rfl ?_
    refine ⟨by kernel_rfl, ?_⟩
    refine nx (sl 6 rfl sn) (el 10 rfl en) ?_
    refine tri_ret ?_
    repeat (first | refine pn_thenr ?_ | refine pn_blkr ?_)
    exact ret1 hcx rfl (rv_tmp rfl) (.refl _) en

theorem t_kl4 {D : List Int} {L : List (List Int)} {ts : List (Int × Int)} {a b : Int} {n k : Nat} (h : TrS D L ts n k) {s : List Int} (hb : 0 < b) (ha : 0 ≤ a) (hDl : D.length ≤ 1048576) (htl : ts.length ≤ 1048576) (hsl : s.length ≤ 1048576) {m mo : Nat} (hs : s.length < n) (hmo : mo ≤ 65536) (hx : ∀ j, j ≤ m → zl (nth (ctT D L ts s (n - 1) (n - 1 - s.length) s.length) j) ≤ k) (hw : ∀ j, j < m → ptT D L ts (s ++ [nth (ctT D L ts s (n - 1) (n - 1 - s.length) s.length) j]) (n - 1) (s.length + 1) ≤ (a : Rat) / (b : Rat)) (hn : ¬ ptT D L ts (s ++ [nth (ctT D L ts s (n - 1) (n - 1 - s.length) s.length) m]) (n - 1) (s.length + 1) ≤ (a : Rat) / (b : Rat)) (hin : ptT D L ts s (n - 1) s.length ≤ (a : Rat) / (b : Rat)) : Fn Tryz.prog 4 [T.Tr D L ts a b k, T.l (cZi k) s, T.c (.int .i64 (mo : Int))] [] [] [] (T.c (.bool true)) := by
  refine fn_of Tryz.func4 rfl (by show 3 ≤ 85; decide) fun cx hcx => ?_
  refine tri_sub (sl 0 rfl (sl 1 rfl (sl 2 rfl sn))) en ?_
  have hn12 := h.twelve
  have hkk := h.hk
  have hlL := h.len
  have hn0 := h.pos
  have hkl := @kl_len (ctT D L ts s (n - 1) (n - 1 - s.length) s.length) (min m mo)
  have hmm : min m mo ≤ mo := Nat.min_le_right _ _
  refine tri_seq ?_
  refine tri_reg mixed hcx ?_ _ _
  refine bxs 10 rfl ?_
  refine asg rfl ?_
  refine ⟨by kernel_rfl, ?_⟩
  refine nx (sl 1 rfl (sl 2 rfl (sl 3 rfl sn))) (el 10 rfl en) ?_
  refine tri_seq ?_
  refine tri_reg mixed hcx ?_ _ _
  refine ld rfl rfl tyTr rfl ?_
  refine mv rfl ?_
  refine mv rfl ?_
  refine ca rfl (h := t_Kids h hb ha (by omega) hx hw hn hmo hin) (hn := ?_)
  refine mv rfl ?_
  refine ex rfl rfl ?_
  refine ex rfl rfl ?_
  refine ex rfl rfl ?_
  refine asg rfl ?_
  refine asg rfl ?_
  refine asg rfl ?_
  refine ⟨by kernel_rfl, ?_⟩
  refine nx (sl 1 rfl (sl 2 rfl (sl 3 rfl (sl 7 rfl (sl 8 rfl (sl 9 rfl sn)))))) (el 10 rfl en) ?_
  refine tri_seq ?_
  refine tri_seq ?_
  refine tri_reg mixed hcx ?_ _ _
  refine ld rfl rfl tyTr rfl ?_
  refine ca rfl (h := r11_Valid7 h.hk (by omega) hDl htl h.good (by omega) (by rw [hlL]; exact h.tl) h.tp hb ha) (hn := ?_)
  refine nt rfl _ rfl ?_
  refine ⟨by kernel_rfl, ?_⟩
  refine nx (sl 1 rfl (sl 2 rfl (sl 3 rfl (sl 7 rfl (sl 8 rfl (sl 9 rfl (sl 22 rfl sn))))))) (el 10 rfl en) ?_
  refine tri_false rfl rfl ?_
  refine tri_skip ?_
  refine nx (sl 1 rfl (sl 2 rfl (sl 3 rfl (sl 7 rfl (sl 8 rfl (sl 9 rfl sn)))))) (el 10 rfl en) ?_
  refine tri_seq ?_
  refine tri_seq ?_
  refine tri_reg mixed hcx ?_ _ _
  refine ld rfl rfl tyTr rfl ?_
  refine mv rfl ?_
  refine ca rfl (h := l11_fits_lt (by omega) hsl (by omega)) (hn := ?_)
  refine nt rfl _ rfl ?_
  refine mv rfl ?_
  refine mv rfl ?_ (hg := gd1)
  refine clt rfl rfl (decide_eq_false (by omega)) ?_ (hg := gd1)
  refine pk rfl rfl ?_
  refine mv rfl ?_
  refine mv rfl ?_ (hg := gd1)
  refine cgt rfl rfl (decide_eq_false (by omega)) ?_ (hg := gd1)
  refine pk rfl rfl ?_
  refine ⟨by kernel_rfl, ?_⟩
  refine nx (sl 1 rfl (sl 2 rfl (sl 3 rfl (sl 7 rfl (sl 8 rfl (sl 9 rfl (sl 48 rfl sn))))))) (el 10 rfl en) ?_
  refine tri_false rfl rfl ?_
  refine tri_skip ?_
  refine nx (sl 1 rfl (sl 2 rfl (sl 3 rfl (sl 7 rfl (sl 8 rfl (sl 9 rfl sn)))))) (el 10 rfl en) ?_
  refine tri_seq ?_
  refine tri_reg mixed hcx ?_ _ _
  refine ld rfl rfl tyTr rfl ?_
  refine mv rfl ?_
  refine mv rfl ?_
  refine ca rfl (h := r11_Kids h hb (by omega) hx hw hn hmo hin) (hn := ?_)
  refine mv rfl ?_
  refine ex rfl rfl ?_
  refine ex rfl rfl ?_
  refine asg rfl ?_
  refine asg rfl ?_
  refine ⟨by kernel_rfl, ?_⟩
  refine nx (sl 7 rfl (sl 8 rfl (sl 9 rfl (sl 10 rfl (sl 11 rfl sn))))) (el 10 rfl en) ?_
  refine tri_seq ?_
  refine tri_reg mixed hcx ?_ _ _
  refine mv rfl ?_
  refine ceq rfl rfl rfl ?_
  refine mv rfl ?_
  refine mv rfl ?_ (hg := gd1)
  refine mv rfl ?_ (hg := gd1)
  refine ca rfl (h := l11_wholes (by omega) (by omega) (by omega)) (hn := ?_) (hg := gd1)
  refine pk rfl rfl ?_
  refine mv rfl ?_
  refine mv rfl ?_ (hg := gd1)
  refine mv rfl ?_ (hg := gd1)
  refine eqb (q := true) rfl rfl (by simp) ?_ (hg := gd1)
  refine pk rfl rfl ?_
  refine mv rfl ?_
  refine ca rfl (h := l11_awake) (hn := ?_) (hg := gd1)
  refine pk rfl rfl ?_
  refine asg rfl ?_
  refine ⟨by kernel_rfl, ?_⟩
  refine nx (sl 6 rfl sn) (el 10 rfl en) ?_
  refine tri_ret ?_
  repeat (first | refine pn_thenr ?_ | refine pn_blkr ?_)
  exact ret1 hcx rfl (rv_tmp rfl) (.refl _) en

theorem l11_wholes0 : Fn Tryz.prog 24 [T.c (.slice none 0 0), T.c (.slice none 0 0)] [] [] [] (T.c (.bool true)) := fn_le (l11_wholes (l := []) (k := 1) (k2 := 1) (by simp) (by decide) (by decide)) ⟨nil_l _, nil_l _, trivial⟩

theorem t_kl5 {D : List Int} {L : List (List Int)} {ts : List (Int × Int)} {a b : Int} {n k : Nat} (h : TrS D L ts n k) {s : List Int} (hb : 0 < b) (ha : 0 ≤ a) (hDl : D.length ≤ 1048576) (htl : ts.length ≤ 1048576) (hsl : s.length ≤ 1048576) {mo : Nat} (hs : s.length < n) (hmo : mo ≤ 65536) (hin : ¬ ptT D L ts s (n - 1) s.length ≤ (a : Rat) / (b : Rat)) : Fn Tryz.prog 4 [T.Tr D L ts a b k, T.l (cZi k) s, T.c (.int .i64 (mo : Int))] [] [] [] (T.c (.bool true)) := by
  refine fn_of Tryz.func4 rfl (by show 3 ≤ 85; decide) fun cx hcx => ?_
  refine tri_sub (sl 0 rfl (sl 1 rfl (sl 2 rfl sn))) en ?_
  have hn12 := h.twelve
  have hkk := h.hk
  have hlL := h.len
  have hn0 := h.pos
  refine tri_seq ?_
  refine tri_reg mixed hcx ?_ _ _
  refine bxs 10 rfl ?_
  refine asg rfl ?_
  refine ⟨by kernel_rfl, ?_⟩
  refine nx (sl 1 rfl (sl 2 rfl (sl 3 rfl sn))) (el 10 rfl en) ?_
  refine tri_seq ?_
  refine tri_reg mixed hcx ?_ _ _
  refine ld rfl rfl tyTr rfl ?_
  refine mv rfl ?_
  refine mv rfl ?_
  refine ca rfl (h := t_Kids_out h hb ha (by omega) hmo hin) (hn := ?_)
  refine mv rfl ?_
  refine ex rfl rfl ?_
  refine ex rfl rfl ?_
  refine ex rfl rfl ?_
  refine asg rfl ?_
  refine asg rfl ?_
  refine asg rfl ?_
  refine ⟨by kernel_rfl, ?_⟩
  refine nx (sl 1 rfl (sl 2 rfl (sl 3 rfl (sl 7 rfl (sl 8 rfl (sl 9 rfl sn)))))) (el 10 rfl en) ?_
  refine tri_seq ?_
  refine tri_seq ?_
  refine tri_reg mixed hcx ?_ _ _
  refine ld rfl rfl tyTr rfl ?_
  refine ca rfl (h := r11_Valid7 h.hk (by omega) hDl htl h.good (by omega) (by rw [hlL]; exact h.tl) h.tp hb ha) (hn := ?_)
  refine nt rfl _ rfl ?_
  refine ⟨by kernel_rfl, ?_⟩
  refine nx (sl 1 rfl (sl 2 rfl (sl 3 rfl (sl 7 rfl (sl 8 rfl (sl 9 rfl (sl 22 rfl sn))))))) (el 10 rfl en) ?_
  refine tri_false rfl rfl ?_
  refine tri_skip ?_
  refine nx (sl 1 rfl (sl 2 rfl (sl 3 rfl (sl 7 rfl (sl 8 rfl (sl 9 rfl sn)))))) (el 10 rfl en) ?_
  refine tri_seq ?_
  refine tri_seq ?_
  refine tri_reg mixed hcx ?_ _ _
  refine ld rfl rfl tyTr rfl ?_
  refine mv rfl ?_
  refine ca rfl (h := l11_fits_lt (by omega) hsl (by omega)) (hn := ?_)
  refine nt rfl _ rfl ?_
  refine mv rfl ?_
  refine mv rfl ?_ (hg := gd1)
  refine clt rfl rfl (decide_eq_false (by omega)) ?_ (hg := gd1)
  refine pk rfl rfl ?_
  refine mv rfl ?_
  refine mv rfl ?_ (hg := gd1)
  refine cgt rfl rfl (decide_eq_false (by omega)) ?_ (hg := gd1)
  refine pk rfl rfl ?_
  refine ⟨by kernel_rfl, ?_⟩
  refine nx (sl 1 rfl (sl 2 rfl (sl 3 rfl (sl 7 rfl (sl 8 rfl (sl 9 rfl (sl 48 rfl sn))))))) (el 10 rfl en) ?_
  refine tri_false rfl rfl ?_
  refine tri_skip ?_
  refine nx (sl 1 rfl (sl 2 rfl (sl 3 rfl (sl 7 rfl (sl 8 rfl (sl 9 rfl sn)))))) (el 10 rfl en) ?_
  refine tri_seq ?_
  refine tri_reg mixed hcx ?_ _ _
  refine ld rfl rfl tyTr rfl ?_
  refine mv rfl ?_
  refine mv rfl ?_
  refine ca rfl (h := r11_Kids_out h hb ha (by omega) hin) (hn := ?_)
  refine mv rfl ?_
  refine ex rfl rfl ?_
  refine ex rfl rfl ?_
  refine asg rfl ?_
  refine asg rfl ?_
  refine ⟨by kernel_rfl, ?_⟩
  refine nx (sl 7 rfl (sl 8 rfl (sl 9 rfl (sl 10 rfl (sl 11 rfl sn))))) (el 10 rfl en) ?_
  refine tri_seq ?_
  refine tri_reg mixed hcx ?_ _ _
  refine mv rfl ?_
  refine ceq rfl rfl rfl ?_
  refine mv rfl ?_
  refine mv rfl ?_ (hg := gd1)
  refine mv rfl ?_ (hg := gd1)
  refine ca rfl (h := l11_wholes0) (hn := ?_) (hg := gd1)
  refine pk rfl rfl ?_
  refine mv rfl ?_
  refine mv rfl ?_ (hg := gd1)
  refine mv rfl ?_ (hg := gd1)
  refine eqb (q := true) rfl rfl (by simp) ?_ (hg := gd1)
  refine pk rfl rfl ?_
  refine mv rfl ?_
  refine ca rfl (h := l11_awake) (hn := ?_) (hg := gd1)
  refine pk rfl rfl ?_
  refine asg rfl ?_
  refine ⟨by kernel_rfl, ?_⟩
  refine nx (sl 6 rfl sn) (el 10 rfl en) ?_
  refine tri_ret ?_
  repeat (first | refine pn_thenr ?_ | refine pn_blkr ?_)
  exact ret1 hcx rfl (rv_tmp rfl) (.refl _) en

theorem TrS.mono {D : List Int} {L : List (List Int)} {ts : List (Int × Int)} {n k K : Nat} (h : TrS D L ts n k) (hk : k ≤ K) (hK : K ≤ 16777216) : TrS D L ts n K where
  good := h.good
  len := h.len
  twelve := h.twelve
  tl := h.tl
  tp := h.tp
  zt := fun i hi => ⟨Nat.le_trans (h.zt i hi).1 hk, Nat.le_trans (h.zt i hi).2 hk⟩
  zD := fun j => Nat.le_trans (h.zD j) hk
  zL := fun i j => Nat.le_trans (h.zL i j) hk
  hk := hK
theorem tr_mono {D : List Int} {L : List (List Int)} {ts : List (Int × Int)} {a b : Int} {k K : Nat} (hk : k ≤ K) : (T.Tr D L ts a b k).le (T.Tr D L ts a b K) := st_le ⟨tl_le (fun _ => zi_mono hk) _, tl_le (fun _ => tl_le (fun _ => zi_mono hk) _) _, tl_le (fun q => st_le (l := [T.Zi q.1 k, T.Zi q.2 k]) (l' := [T.Zi q.1 K, T.Zi q.2 K]) ⟨zi_mono hk, zi_mono hk, trivial⟩) _, zi_mono hk, zi_mono hk, trivial⟩

theorem cells_qz3 {k : Nat} {u : World} : ∀ {l : List (Int × Int)} {cs : List Value}, Cells B0 u (l.map (cQi k).X) cs → ∀ q ∈ l, zl q.1 ≤ k ∧ zl q.2 ≤ k
  | [], _, _, q, h => by cases h
  | a :: r, cs, ⟨v, rest, _, ⟨ys, _, v1, r1, _, h1, _, v2, r2, _, h3, _⟩, _, h2⟩, q, h => by
    rcases List.mem_cons.1 h with rfl | h
    · exact ⟨zi_zl h1, zi_zl h3⟩
    · exact cells_qz3 h2 q h
theorem l_qz3 {k : Nat} {β : Env} {u : World} {l : List (Int × Int)} {v : Value} (h : (T.l (cQi k) l).rep β u v) : ∀ q ∈ l, zl q.1 ≤ k ∧ zl q.2 ≤ k := fun q hq => by
  obtain ⟨A, n, c, _, h1, _, _, h4⟩ := h
  have hp : 0 < n := by rw [← h1]; exact List.length_pos_of_mem hq
  obtain ⟨ad, _, xs, h5, _⟩ := h4 hp
  exact cells_qz3 h5 q hq
/-- The sizes of a tree's numbers. -/
structure TrZ (D : List Int) (L : List (List Int)) (ts : List (Int × Int)) (a b : Int) (k : Nat) : Prop where
  zD : ∀ j, zl (D.getD j 0) ≤ k
  zL : ∀ i j, zl ((L.getD j []).getD i 0) ≤ k
  zt : ∀ i, i < ts.length → zl (ts.getD i (0, 0)).1 ≤ k ∧ zl (ts.getD i (0, 0)).2 ≤ k
  za : zl a ≤ k
theorem fn_trz {P : Program} {f : FuncId} {R : T} {As : List T} {D : List Int} {L : List (List Int)} {ts : List (Int × Int)} {a b : Int} {k : Nat} {Ei Eo : List (Nat × Ent)} {N : List Nat} (h : TrZ D L ts a b k → Fn P f (T.Tr D L ts a b k :: As) Ei Eo N R) : Fn P f (T.Tr D L ts a b k :: As) Ei Eo N R := fun vs β u w F hs hr hH => by
  match vs, hr with
  | v0 :: r, ⟨r0, r1⟩ =>
    have r0' := r0
    obtain ⟨cs, _, v1, s1, _, a1, _, v2, s2, _, a2, _, v3, s3, _, a3, _, v4, s4, _, a4, _⟩ := r0'
    exact h ⟨getD_zl (l_zl a1), ll_zl a2, fun i hi => l_qz3 a3 (ts.getD i (0, 0)) (by rw [List.getD_eq_getElem?_getD, List.getElem?_eq_getElem hi]; exact List.getElem_mem hi), zi_zl a4⟩ _ β u w F hs ⟨r0, r1⟩ hH
theorem fn_lz1 {P : Program} {f : FuncId} {R A : T} {As : List T} {s : List Int} {k : Nat} {Ei Eo : List (Nat × Ent)} {N : List Nat} (h : (∀ j, zl (s.getD j 0) ≤ k) → Fn P f (A :: T.l (cZi k) s :: As) Ei Eo N R) : Fn P f (A :: T.l (cZi k) s :: As) Ei Eo N R := fun vs β u w F hs hr hH => by
  match vs, hr with
  | v0 :: v1 :: r, ⟨r0, r1, r2⟩ => exact h (getD_zl (l_zl r1)) _ β u w F hs ⟨r0, r1, r2⟩ hH
theorem TrV.trs {D : List Int} {L : List (List Int)} {ts : List (Int × Int)} {a b : Int} {k : Nat} (h : TrV D L ts a b) (z : TrZ D L ts a b k) (hk : k ≤ 16777216) : TrS D L ts L.length k := ⟨h.1, rfl, h.2.1, h.2.2.1, h.2.2.2.1, z.zt, z.zD, z.zL, hk⟩

/-- The law, of every tree, every suffix, every number of children. -/
theorem t_kids_all {D : List Int} {L : List (List Int)} {ts : List (Int × Int)} {a b : Int} {k : Nat} {s : List Int} {mo : Int} (hk : k ≤ 1048576) (hLl : L.length ≤ 1048576) (hDl : D.length ≤ 1048576) (htl : ts.length ≤ 1048576) (hsl : s.length ≤ 1048576) : Fn Tryz.prog 4 [T.Tr D L ts a b k, T.l (cZi k) s, T.c (.int .i64 mo)] [] [] [] (T.c (.bool true)) := fn_trz fun hZ => fn_lz1 fun hz => by
  classical
  by_cases hV : TrV D L ts a b
  · have h := hV.trs hZ (by omega)
    obtain ⟨hG, hn, ht, hd, hb, ha⟩ := hV
    rcases Nat.lt_or_ge s.length L.length with hs | hs
    · by_cases hmo : mo < 0 ∨ 65536 < mo
      · exact t_kl3 h hb ha hDl htl hsl hs hmo
      · obtain ⟨m', rfl⟩ : ∃ m' : Nat, mo = (m' : Int) := ⟨mo.toNat, by omega⟩
        by_cases hin : ptT D L ts s (L.length - 1) s.length ≤ (a : Rat) / (b : Rat)
        · obtain ⟨m, hx, hw, hn⟩ := kids_ex h (Nat.le_refl k) hz hs (Rb.frac hZ.za hb)
          exact fn_le (t_kl4 (h.mono (K := 16777216) (by omega) (Nat.le_refl _)) hb ha hDl htl hsl hs (by omega) (fun j hj => Nat.le_trans (hx j hj) (by omega)) hw hn hin) ⟨tr_mono (by omega), li_mono (by omega), .refl _, trivial⟩
        · exact t_kl5 h hb ha hDl htl hsl hs (by omega) hin
    · exact t_kl2 h hb ha hDl htl hsl hs
  · exact t_kl1 (by omega) hLl hDl htl hV
end Go.Proofs.YtekghdfbhbhigaaGreat.V
