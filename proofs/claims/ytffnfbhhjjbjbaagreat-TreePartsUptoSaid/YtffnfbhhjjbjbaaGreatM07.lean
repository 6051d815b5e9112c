/- Search trees: the document's parts and centres. -/
import Derived.Test.YtffnfbhhjjbjbaaGreatM06
set_option linter.unusedVariables false
set_option linter.unusedSimpArgs false
set_option maxRecDepth 100000
namespace Go.Proofs.YtffnfbhhjjbjbaaGreat.V
open Go.RowKit Mt Nml
theorem sgq_le {x y : Rat} : sg (x - y).num ≤ 0 ↔ x ≤ y := by
  rcases three x y with h | h | h
  · exact ⟨fun _ => Rat.le_of_lt h, fun _ => by have := sgq_lt h; omega⟩
  · exact ⟨fun _ => by rw [h]; exact Rat.le_refl, fun _ => by have := sgq_eq h; omega⟩
  · exact ⟨fun h2 => by have := sgq_gt h; omega, fun h2 => absurd h (Rat.not_lt.2 h2)⟩

theorem r11_Valid1 {D : List Int} {L : List (List Int)} {ts : List (Int × Int)} {a b : Int} {k : Nat} (hk : k ≤ 1048576) (hLl : L.length ≤ 1048576) (hDl : D.length ≤ 1048576) (htl : ts.length ≤ 1048576) (hG : ¬ GoodP D L) : Fn Tryz.prog 45 [T.Tr D L ts a b k] [] [] [] (T.c (.bool false)) := by
  refine fn_of Tryz.func45 rfl (by show 1 ≤ 55; decide) fun cx hcx => ?_
  refine tri_sub (sl 0 rfl sn) en ?_
  refine tri_seq ?_
  refine tri_reg mixed hcx ?_ _ _
  refine bxs 10 rfl ?_
  refine asg rfl ?_
  refine ⟨by kernel_rfl, ?_⟩
  refine nx (sl 1 rfl sn) (el 10 rfl en) ?_
  refine tri_seq ?_
  refine tri_seq ?_
  refine tri_reg mixed hcx ?_ _ _
  refine fa rfl fTrG 0 ?_
  refine ld rfl rfl tyG rfl ?_
  refine ca rfl (h := r05_Good (q := false) (by simp [hG]) (by omega) (by omega) (by omega)) (hn := ?_)
  refine nt rfl _ rfl ?_
  refine mv rfl ?_
  refine j_off rfl rfl rfl rfl ?_
  refine j_off rfl rfl rfl rfl ?_
  refine j_off rfl rfl rfl rfl ?_
  refine j_off rfl rfl rfl rfl ?_
  refine j_off rfl rfl rfl rfl ?_
  refine pk rfl rfl ?_
  refine mv rfl ?_
  refine j_off rfl rfl rfl rfl ?_
  refine j_off rfl rfl rfl rfl ?_
  refine j_off rfl rfl rfl rfl ?_
  refine j_off rfl rfl rfl rfl ?_
  refine j_off rfl rfl rfl rfl ?_
  refine j_ofu rfl rfl rfl ?_
  refine j_ofu rfl rfl rfl ?_
  refine j_ofu rfl rfl rfl ?_
  refine j_ofu rfl rfl rfl ?_
  refine j_ofu rfl rfl rfl ?_
  refine j_ofu rfl rfl rfl ?_
  refine j_ofu rfl rfl rfl ?_
  refine j_ofu rfl rfl rfl ?_
  refine j_off rfl rfl rfl rfl ?_
  refine pk rfl rfl ?_
  refine ⟨by kernel_rfl, ?_⟩
  refine nx (sl 1 rfl (sl 30 rfl sn)) (el 10 rfl en) ?_
  refine tri_true rfl rfl ?_
  refine tri_seq ?_
  refine tri_reg mixed hcx ?_ _ _
  refine asg rfl ?_
  refine ⟨by kernel_rfl, ?_⟩
  refine nx (sl 2 rfl sn) (el 10 rfl en) ?_
  refine tri_ret ?_
  repeat (first | refine pn_thenr ?_ | refine pn_blkr ?_)
  exact ret1 hcx rfl (rv_tmp rfl) (.refl _) en

theorem r11_Valid2 {D : List Int} {L : List (List Int)} {ts : List (Int × Int)} {a b : Int} {k : Nat} (hk : k ≤ 1048576) (hLl : L.length ≤ 1048576) (hDl : D.length ≤ 1048576) (htl : ts.length ≤ 1048576) (hG : GoodP D L) (hn : 12 < L.length) : Fn Tryz.prog 45 [T.Tr D L ts a b k] [] [] [] (T.c (.bool false)) := by
  refine fn_of Tryz.func45 rfl (by show 1 ≤ 55; decide) fun cx hcx => ?_
  refine tri_sub (sl 0 rfl sn) en ?_
  refine tri_seq ?_
  refine tri_reg mixed hcx ?_ _ _
  refine bxs 10 rfl ?_
  refine asg rfl ?_
  refine ⟨by kernel_rfl, ?_⟩
  refine nx (sl 1 rfl sn) (el 10 rfl en) ?_
  refine tri_seq ?_
  refine tri_seq ?_
  refine tri_reg mixed hcx ?_ _ _
  refine fa rfl fTrG 0 ?_
  refine ld rfl rfl tyG rfl ?_
  refine ca rfl (h := r05_Good (q := true) (by simp [hG]) (by omega) (by omega) (by omega)) (hn := ?_)
  refine nt rfl _ rfl ?_
  refine mv rfl ?_
  refine fa rfl fTrG 0 ?_ (hg := gd1)
  refine fa rfl fL 1 ?_ (hg := gd1)
  refine ld rfl rfl tyZss rfl ?_ (hg := gd1)
  refine ln slZss rfl ?_ (hg := gd1)
  refine cgt rfl rfl (decide_eq_true (by omega)) ?_ (hg := gd1)
  refine pk rfl rfl ?_
  refine mv rfl ?_
  refine j_off rfl rfl rfl rfl ?_
  refine j_off rfl rfl rfl rfl ?_
  refine j_off rfl rfl rfl rfl ?_
  refine j_off rfl rfl rfl rfl ?_
  refine j_off rfl rfl rfl rfl ?_
  refine j_ofu rfl rfl rfl ?_
  refine j_ofu rfl rfl rfl ?_
  refine j_ofu rfl rfl rfl ?_
  refine j_ofu rfl rfl rfl ?_
  refine j_ofu rfl rfl rfl ?_
  refine j_ofu rfl rfl rfl ?_
  refine j_ofu rfl rfl rfl ?_
  refine j_ofu rfl rfl rfl ?_
  refine j_off rfl rfl rfl rfl ?_
  refine pk rfl rfl ?_
  refine ⟨by kernel_rfl, ?_⟩
  refine nx (sl 1 rfl (sl 30 rfl sn)) (el 10 rfl en) ?_
  refine tri_true rfl rfl ?_
  refine tri_seq ?_
  refine tri_reg mixed hcx ?_ _ _
  refine asg rfl ?_
  refine ⟨by kernel_rfl, ?_⟩
  refine nx (sl 2 rfl sn) (el 10 rfl en) ?_
  refine tri_ret ?_
  repeat (first | refine pn_thenr ?_ | refine pn_blkr ?_)
  exact ret1 hcx rfl (rv_tmp rfl) (.refl _) en

theorem r11_Valid3 {D : List Int} {L : List (List Int)} {ts : List (Int × Int)} {a b : Int} {k : Nat} (hk : k ≤ 1048576) (hLl : L.length ≤ 1048576) (hDl : D.length ≤ 1048576) (htl : ts.length ≤ 1048576) (hG : GoodP D L) (hn : L.length ≤ 12) (h1 : ts.length ≠ 0) (h2 : ts.length ≠ L.length) : Fn Tryz.prog 45 [T.Tr D L ts a b k] [] [] [] (T.c (.bool false)) := by
  refine fn_of Tryz.func45 rfl (by show 1 ≤ 55; decide) fun cx hcx => ?_
  refine tri_sub (sl 0 rfl sn) en ?_
  refine tri_seq ?_
  refine tri_reg mixed hcx ?_ _ _
  refine bxs 10 rfl ?_
  refine asg rfl ?_
  refine ⟨by kernel_rfl, ?_⟩
  refine nx (sl 1 rfl sn) (el 10 rfl en) ?_
  refine tri_seq ?_
  refine tri_seq ?_
  refine tri_reg mixed hcx ?_ _ _
  refine fa rfl fTrG 0 ?_
  refine ld rfl rfl tyG rfl ?_
  refine ca rfl (h := r05_Good (q := true) (by simp [hG]) (by omega) (by omega) (by omega)) (hn := ?_)
  refine nt rfl _ rfl ?_
  refine mv rfl ?_
  refine fa rfl fTrG 0 ?_ (hg := gd1)
  refine fa rfl fL 1 ?_ (hg := gd1)
  refine ld rfl rfl tyZss rfl ?_ (hg := gd1)
  refine ln slZss rfl ?_ (hg := gd1)
  refine cgt rfl rfl (decide_eq_false (by omega)) ?_ (hg := gd1)
  refine pk rfl rfl ?_
  refine mv rfl ?_
  refine fa rfl fTrT 2 ?_ (hg := gd1)
  refine ld rfl rfl tyQs rfl ?_ (hg := gd1)
  refine ln slQs rfl ?_ (hg := gd1)
  refine cne rfl rfl (decide_eq_true (by omega)) ?_ (hg := gd1)
  refine mv rfl ?_ (hg := gd1)
  refine fa rfl fTrT 2 ?_ (hg := gd1)
  refine ld rfl rfl tyQs rfl ?_ (hg := gd1)
  refine ln slQs rfl ?_ (hg := gd1)
  refine fa rfl fTrG 0 ?_ (hg := gd1)
  refine fa rfl fL 1 ?_ (hg := gd1)
  refine ld rfl rfl tyZss rfl ?_ (hg := gd1)
  refine ln slZss rfl ?_ (hg := gd1)
  refine cne rfl rfl (decide_eq_true (by omega)) ?_ (hg := gd1)
  refine pk rfl rfl ?_ (hg := gd1)
  refine pk rfl rfl ?_
  refine ⟨by kernel_rfl, ?_⟩
  refine nx (sl 1 rfl (sl 30 rfl sn)) (el 10 rfl en) ?_
  refine tri_true rfl rfl ?_
  refine tri_seq ?_
  refine tri_reg mixed hcx ?_ _ _
  refine asg rfl ?_
  refine ⟨by kernel_rfl, ?_⟩
  refine nx (sl 2 rfl sn) (el 10 rfl en) ?_
  refine tri_ret ?_
  repeat (first | refine pn_thenr ?_ | refine pn_blkr ?_)
  exact ret1 hcx rfl (rv_tmp rfl) (.refl _) en

theorem r11_Valid4 {D : List Int} {L : List (List Int)} {ts : List (Int × Int)} {a b : Int} {k : Nat} (hk : k ≤ 1048576) (hLl : L.length ≤ 1048576) (hDl : D.length ≤ 1048576) (htl : ts.length ≤ 1048576) (hG : GoodP D L) (hn : L.length ≤ 12) (ht : ts.length = 0 ∨ ts.length = L.length) {w : Nat} (hw : w < ts.length) (hw1 : ¬ 0 < (ts.getD w (0, 0)).2) (hw2 : ∀ i, i < w → 0 < (ts.getD i (0, 0)).2) : Fn Tryz.prog 45 [T.Tr D L ts a b k] [] [] [] (T.c (.bool false)) := by
  refine fn_of Tryz.func45 rfl (by show 1 ≤ 55; decide) fun cx hcx => ?_
  refine tri_sub (sl 0 rfl sn) en ?_
  refine tri_seq ?_
  refine tri_reg mixed hcx ?_ _ _
  refine bxs 10 rfl ?_
  refine asg rfl ?_
  refine ⟨by kernel_rfl, ?_⟩
  refine nx (sl 1 rfl sn) (el 10 rfl en) ?_
  refine tri_seq ?_
  refine tri_seq ?_
  by_cases htz : ts.length = 0
  · refine tri_reg mixed hcx ?_ _ _
    refine fa rfl fTrG 0 ?_
    refine ld rfl rfl tyG rfl ?_
    refine ca rfl (h := r05_Good (q := true) (by simp [hG]) (by omega) (by omega) (by omega)) (hn := ?_)
    refine nt rfl _ rfl ?_
    refine mv rfl ?_
    refine fa rfl fTrG 0 ?_ (hg := gd1)
    refine fa rfl fL 1 ?_ (hg := gd1)
    refine ld rfl rfl tyZss rfl ?_ (hg := gd1)
    refine ln slZss rfl ?_ (hg := gd1)
    refine cgt rfl rfl (decide_eq_false (by omega)) ?_ (hg := gd1)
    refine pk rfl rfl ?_
    refine mv rfl ?_
    refine fa rfl fTrT 2 ?_ (hg := gd1)
    refine ld rfl rfl tyQs rfl ?_ (hg := gd1)
    refine ln slQs rfl ?_ (hg := gd1)
    refine cne rfl rfl (decide_eq_false (by omega)) ?_ (hg := gd1)
    refine mv rfl ?_ (hg := gd1)
    refine j_off rfl rfl rfl rfl ?_
    refine j_off rfl rfl rfl rfl ?_
    refine j_off rfl rfl rfl rfl ?_
    refine j_off rfl rfl rfl rfl ?_
    refine j_off rfl rfl rfl rfl ?_
    refine j_off rfl rfl rfl rfl ?_
    refine j_off rfl rfl rfl rfl ?_
    refine j_off rfl rfl rfl rfl ?_
    refine pk rfl rfl ?_ (hg := gd1)
    refine pk rfl rfl ?_
    refine ⟨by kernel_rfl, ?_⟩
    refine nx (sl 1 rfl (sl 30 rfl sn)) (el 10 rfl en) ?_
    refine tri_false rfl rfl ?_
    refine tri_skip ?_
    refine nx (sl 1 rfl sn) (el 10 rfl en) ?_
    refine tri_seq ?_
    refine tri_seq ?_
    refine tri_reg mixed hcx ?_ _ _
    refine asg rfl ?_
    refine ⟨by kernel_rfl, ?_⟩
    refine nx (sl 1 rfl (sl 3 rfl sn)) (el 10 rfl en) ?_
    refine tri_block ?_
    refine tri_loop (ι := Nat) (fun i => [(1, T.p 10 0), (3, T.c (.int .i64 (i : Int)))]) (fun i => [(10, some (Ent.box 91 [T.l (cZi k) D, T.l (cL (cZi k)) L, T.l (cQi k) ts, T.Zi a k, T.Zi b k]))]) (fun i => ts.length - i) (fun i => (i ≤ w)) 0 (Nat.zero_le _) (sl 1 rfl (sl 3 rfl sn)) (el 10 rfl en) ?_
    rintro i hi
    refine tri_sub (sl 1 rfl (sl 3 rfl sn)) (el 10 rfl en) ?_
    refine tri_seq ?_
    refine tri_seq ?_
    refine tri_reg mixed hcx ?_ _ _
    refine mv rfl ?_
    refine fa rfl fTrT 2 ?_
    refine ld rfl rfl tyQs rfl ?_
    refine ln slQs rfl ?_
    refine clt rfl rfl (decide_eq_true (by omega)) ?_
    refine ⟨by kernel_rfl, ?_⟩
    refine nx (sl 1 rfl (sl 3 rfl (sl 35 rfl sn))) (el 10 rfl en) ?_
    refine tri_true rfl rfl ?_
    refine tri_skip ?_
    refine nx (sl 1 rfl (sl 3 rfl sn)) (el 10 rfl en) ?_
    refine tri_seq ?_
    refine tri_block ?_
    refine tri_seq ?_
    rcases Nat.lt_or_eq_of_le hi with hlt | heq
    · have hp : 0 < (ts.getD i (cQi k).dflt).2 := hw2 i hlt
      refine tri_reg mixed hcx ?_ _ _
      refine fa rfl fTrT 2 ?_
      refine ld rfl rfl tyQs rfl ?_
      refine mv rfl ?_
      refine ix rfl rfl slQs ⟨rfl, by omega⟩ ?_
      refine lf rfl tyQ ?_
      refine ca rfl (h := r03_ValidG (a := (ts.getD i (cQi k).dflt).1) (b := (ts.getD i (cQi k).dflt).2) (k := k) (q := true) (iff_of_true rfl hp) (by omega)) (hn := ?_)
      refine nt rfl _ rfl ?_
      refine ⟨by kernel_rfl, ?_⟩
      refine nx (sl 1 rfl (sl 3 rfl (sl 44 rfl sn))) (el 10 rfl en) ?_
      refine tri_false rfl rfl ?_
      refine tri_skip ?_
      refine pn_blk ?_
      refine nx (sl 1 rfl (sl 3 rfl sn)) (el 10 rfl en) ?_
      refine tri_reg mixed hcx ?_ _ _
      refine mv rfl ?_
      refine ad (((i + 1 : Nat) : Int)) rfl rfl rfl (by omega) ?_
      refine asg rfl ?_
      refine ⟨by kernel_rfl, ?_⟩
      exact pn_back (i + 1) (by first | omega | (dsimp only; omega)) (by omega) (sl 1 rfl (sl 3 rfl sn)) (el 10 rfl en)
    · have hp : ¬ 0 < (ts.getD i (cQi k).dflt).2 := by rw [heq]; exact hw1
      refine tri_reg mixed hcx ?_ _ _
      refine fa rfl fTrT 2 ?_
      refine ld rfl rfl tyQs rfl ?_
      refine mv rfl ?_
      refine ix rfl rfl slQs ⟨rfl, by omega⟩ ?_
      refine lf rfl tyQ ?_
      refine ca rfl (h := r03_ValidG (a := (ts.getD i (cQi k).dflt).1) (b := (ts.getD i (cQi k).dflt).2) (k := k) (q := false) (iff_of_false Bool.false_ne_true hp) (by omega)) (hn := ?_)
      refine nt rfl _ rfl ?_
      refine ⟨by kernel_rfl, ?_⟩
      refine nx (sl 1 rfl (sl 3 rfl (sl 44 rfl sn))) (el 10 rfl en) ?_
      refine tri_true rfl rfl ?_
      refine tri_seq ?_
      refine tri_reg mixed hcx ?_ _ _
      refine asg rfl ?_
      refine ⟨by kernel_rfl, ?_⟩
      refine nx (sl 2 rfl sn) (el 10 rfl en) ?_
      refine tri_ret ?_
      repeat (first | refine pn_thenr ?_ | refine pn_blkr ?_)
      exact ret1 hcx rfl (rv_tmp rfl) (.refl _) en
  · have htn : ts.length = L.length := by rcases ht with h | h <;> omega
    refine tri_reg mixed hcx ?_ _ _
    refine fa rfl fTrG 0 ?_
    refine ld rfl rfl tyG rfl ?_
    refine ca rfl (h := r05_Good (q := true) (by simp [hG]) (by omega) (by omega) (by omega)) (hn := ?_)
    refine nt rfl _ rfl ?_
    refine mv rfl ?_
    refine fa rfl fTrG 0 ?_ (hg := gd1)
    refine fa rfl fL 1 ?_ (hg := gd1)
    refine ld rfl rfl tyZss rfl ?_ (hg := gd1)
    refine ln slZss rfl ?_ (hg := gd1)
    refine cgt rfl rfl (decide_eq_false (by omega)) ?_ (hg := gd1)
    refine pk rfl rfl ?_
    refine mv rfl ?_
    refine fa rfl fTrT 2 ?_ (hg := gd1)
    refine ld rfl rfl tyQs rfl ?_ (hg := gd1)
    refine ln slQs rfl ?_ (hg := gd1)
    refine cne rfl rfl (decide_eq_true (by omega)) ?_ (hg := gd1)
    refine mv rfl ?_ (hg := gd1)
    refine fa rfl fTrT 2 ?_ (hg := gd1)
    refine ld rfl rfl tyQs rfl ?_ (hg := gd1)
    refine ln slQs rfl ?_ (hg := gd1)
    refine fa rfl fTrG 0 ?_ (hg := gd1)
    refine fa rfl fL 1 ?_ (hg := gd1)
    refine ld rfl rfl tyZss rfl ?_ (hg := gd1)
    refine ln slZss rfl ?_ (hg := gd1)
    refine cne rfl rfl (decide_eq_false (by omega)) ?_ (hg := gd1)
    refine pk rfl rfl ?_ (hg := gd1)
    refine pk rfl rfl ?_
    refine ⟨by kernel_rfl, ?_⟩
    refine nx (sl 1 rfl (sl 30 rfl sn)) (el 10 rfl en) ?_
    refine tri_false rfl rfl ?_
    refine tri_skip ?_
    refine nx (sl 1 rfl sn) (el 10 rfl en) ?_
    refine tri_seq ?_
    refine tri_seq ?_
    refine tri_reg mixed hcx ?_ _ _
    refine asg rfl ?_
    refine ⟨by kernel_rfl, ?_⟩
    refine nx (sl 1 rfl (sl 3 rfl sn)) (el 10 rfl en) ?_
    refine tri_block ?_
    refine tri_loop (ι := Nat) (fun i => [(1, T.p 10 0), (3, T.c (.int .i64 (i : Int)))]) (fun i => [(10, some (Ent.box 91 [T.l (cZi k) D, T.l (cL (cZi k)) L, T.l (cQi k) ts, T.Zi a k, T.Zi b k]))]) (fun i => ts.length - i) (fun i => (i ≤ w)) 0 (Nat.zero_le _) (sl 1 rfl (sl 3 rfl sn)) (el 10 rfl en) ?_
    rintro i hi
    refine tri_sub (sl 1 rfl (sl 3 rfl sn)) (el 10 rfl en) ?_
    refine tri_seq ?_
    refine tri_seq ?_
    refine tri_reg mixed hcx ?_ _ _
    refine mv rfl ?_
    refine fa rfl fTrT 2 ?_
    refine ld rfl rfl tyQs rfl ?_
    refine ln slQs rfl ?_
    refine clt rfl rfl (decide_eq_true (by omega)) ?_
    refine ⟨by kernel_rfl, ?_⟩
    refine nx (sl 1 rfl (sl 3 rfl (sl 35 rfl sn))) (el 10 rfl en) ?_
    refine tri_true rfl rfl ?_
    refine tri_skip ?_
    refine nx (sl 1 rfl (sl 3 rfl sn)) (el 10 rfl en) ?_
    refine tri_seq ?_
    refine tri_block ?_
    refine tri_seq ?_
    rcases Nat.lt_or_eq_of_le hi with hlt | heq
    · have hp : 0 < (ts.getD i (cQi k).dflt).2 := hw2 i hlt
      refine tri_reg mixed hcx ?_ _ _
      refine fa rfl fTrT 2 ?_
      refine ld rfl rfl tyQs rfl ?_
      refine mv rfl ?_
      refine ix rfl rfl slQs ⟨rfl, by omega⟩ ?_
      refine lf rfl tyQ ?_
      refine ca rfl (h := r03_ValidG (a := (ts.getD i (cQi k).dflt).1) (b := (ts.getD i (cQi k).dflt).2) (k := k) (q := true) (iff_of_true rfl hp) (by omega)) (hn := ?_)
      refine nt rfl _ rfl ?_
      refine ⟨by kernel_rfl, ?_⟩
      refine nx (sl 1 rfl (sl 3 rfl (sl 44 rfl sn))) (el 10 rfl en) ?_
      refine tri_false rfl rfl ?_
      refine tri_skip ?_
      refine pn_blk ?_
      refine nx (sl 1 rfl (sl 3 rfl sn)) (el 10 rfl en) ?_
      refine tri_reg mixed hcx ?_ _ _
      refine mv rfl ?_
      refine ad (((i + 1 : Nat) : Int)) rfl rfl rfl (by omega) ?_
      refine asg rfl ?_
      refine ⟨by kernel_rfl, ?_⟩
      exact pn_back (i + 1) (by first | omega | (dsimp only; omega)) (by omega) (sl 1 rfl (sl 3 rfl sn)) (el 10 rfl en)
    · have hp : ¬ 0 < (ts.getD i (cQi k).dflt).2 := by rw [heq]; exact hw1
      refine tri_reg mixed hcx ?_ _ _
      refine fa rfl fTrT 2 ?_
      refine ld rfl rfl tyQs rfl ?_
      refine mv rfl ?_
      refine ix rfl rfl slQs ⟨rfl, by omega⟩ ?_
      refine lf rfl tyQ ?_
      refine ca rfl (h := r03_ValidG (a := (ts.getD i (cQi k).dflt).1) (b := (ts.getD i (cQi k).dflt).2) (k := k) (q := false) (iff_of_false Bool.false_ne_true hp) (by omega)) (hn := ?_)
      refine nt rfl _ rfl ?_
      refine ⟨by kernel_rfl, ?_⟩
      refine nx (sl 1 rfl (sl 3 rfl (sl 44 rfl sn))) (el 10 rfl en) ?_
      refine tri_true rfl rfl ?_
      refine tri_seq ?_
      refine tri_reg mixed hcx ?_ _ _
      refine asg rfl ?_
      refine ⟨by kernel_rfl, ?_⟩
      refine nx (sl 2 rfl sn) (el 10 rfl en) ?_
      refine tri_ret ?_
      repeat (first | refine pn_thenr ?_ | refine pn_blkr ?_)
      exact ret1 hcx rfl (rv_tmp rfl) (.refl _) en

theorem r11_Valid5 {D : List Int} {L : List (List Int)} {ts : List (Int × Int)} {a b : Int} {k : Nat} (hk : k ≤ 1048576) (hLl : L.length ≤ 1048576) (hDl : D.length ≤ 1048576) (htl : ts.length ≤ 1048576) (hG : GoodP D L) (hn : L.length ≤ 12) (ht : ts.length = 0 ∨ ts.length = L.length) (hd : ∀ i, i < ts.length → 0 < (ts.getD i (0, 0)).2) (hb : ¬ 0 < b) : Fn Tryz.prog 45 [T.Tr D L ts a b k] [] [] [] (T.c (.bool false)) := by
  refine fn_of Tryz.func45 rfl (by show 1 ≤ 55; decide) fun cx hcx => ?_
  refine tri_sub (sl 0 rfl sn) en ?_
  refine tri_seq ?_
  refine tri_reg mixed hcx ?_ _ _
  refine bxs 10 rfl ?_
  refine asg rfl ?_
  refine ⟨by kernel_rfl, ?_⟩
  refine nx (sl 1 rfl sn) (el 10 rfl en) ?_
  refine tri_seq ?_
  refine tri_seq ?_
  by_cases htz : ts.length = 0
  · refine tri_reg mixed hcx ?_ _ _
    refine fa rfl fTrG 0 ?_
    refine ld rfl rfl tyG rfl ?_
    refine ca rfl (h := r05_Good (q := true) (by simp [hG]) (by omega) (by omega) (by omega)) (hn := ?_)
    refine nt rfl _ rfl ?_
    refine mv rfl ?_
    refine fa rfl fTrG 0 ?_ (hg := gd1)
    refine fa rfl fL 1 ?_ (hg := gd1)
    refine ld rfl rfl tyZss rfl ?_ (hg := gd1)
    refine ln slZss rfl ?_ (hg := gd1)
    refine cgt rfl rfl (decide_eq_false (by omega)) ?_ (hg := gd1)
    refine pk rfl rfl ?_
    refine mv rfl ?_
    refine fa rfl fTrT 2 ?_ (hg := gd1)
    refine ld rfl rfl tyQs rfl ?_ (hg := gd1)
    refine ln slQs rfl ?_ (hg := gd1)
    refine cne rfl rfl (decide_eq_false (by omega)) ?_ (hg := gd1)
    refine mv rfl ?_ (hg := gd1)
    refine j_off rfl rfl rfl rfl ?_
    refine j_off rfl rfl rfl rfl ?_
    refine j_off rfl rfl rfl rfl ?_
    refine j_off rfl rfl rfl rfl ?_
    refine j_off rfl rfl rfl rfl ?_
    refine j_off rfl rfl rfl rfl ?_
    refine j_off rfl rfl rfl rfl ?_
    refine j_off rfl rfl rfl rfl ?_
    refine pk rfl rfl ?_ (hg := gd1)
    refine pk rfl rfl ?_
    refine ⟨by kernel_rfl, ?_⟩
    refine nx (sl 1 rfl (sl 30 rfl sn)) (el 10 rfl en) ?_
    refine tri_false rfl rfl ?_
    refine tri_skip ?_
    refine nx (sl 1 rfl sn) (el 10 rfl en) ?_
    refine tri_seq ?_
    refine tri_seq ?_
    refine tri_reg mixed hcx ?_ _ _
    refine asg rfl ?_
    refine ⟨by kernel_rfl, ?_⟩
    refine nx (sl 1 rfl (sl 3 rfl sn)) (el 10 rfl en) ?_
    refine tri_block ?_
    refine tri_loop (ι := Nat) (fun i => [(1, T.p 10 0), (3, T.c (.int .i64 (i : Int)))]) (fun i => [(10, some (Ent.box 91 [T.l (cZi k) D, T.l (cL (cZi k)) L, T.l (cQi k) ts, T.Zi a k, T.Zi b k]))]) (fun i => ts.length - i) (fun i => (i ≤ ts.length)) 0 (Nat.zero_le _) (sl 1 rfl (sl 3 rfl sn)) (el 10 rfl en) ?_
    rintro i hi
    refine tri_sub (sl 1 rfl (sl 3 rfl sn)) (el 10 rfl en) ?_
    refine tri_seq ?_
    refine tri_seq ?_
    refine tri_reg mixed hcx ?_ _ _
    refine mv rfl ?_
    refine fa rfl fTrT 2 ?_
    refine ld rfl rfl tyQs rfl ?_
    refine ln slQs rfl ?_
    refine clt rfl rfl rfl ?_
    refine ⟨by kernel_rfl, ?_⟩
    refine nx (sl 1 rfl (sl 3 rfl (sl 35 rfl sn))) (el 10 rfl en) ?_
    refine tri_if rfl (fun hc => ?_) (fun hc => ?_)
    · have hp : 0 < (ts.getD i (cQi k).dflt).2 := hd i (by omega)
      refine tri_skip ?_
      refine nx (sl 1 rfl (sl 3 rfl sn)) (el 10 rfl en) ?_
      refine tri_seq ?_
      refine tri_block ?_
      refine tri_seq ?_
      refine tri_reg mixed hcx ?_ _ _
      refine fa rfl fTrT 2 ?_
      refine ld rfl rfl tyQs rfl ?_
      refine mv rfl ?_
      refine ix rfl rfl slQs ⟨rfl, by omega⟩ ?_
      refine lf rfl tyQ ?_
      refine ca rfl (h := r03_ValidG (a := (ts.getD i (cQi k).dflt).1) (b := (ts.getD i (cQi k).dflt).2) (k := k) (q := true) (iff_of_true rfl hp) (by omega)) (hn := ?_)
      refine nt rfl _ rfl ?_
      refine ⟨by kernel_rfl, ?_⟩
      refine nx (sl 1 rfl (sl 3 rfl (sl 44 rfl sn))) (el 10 rfl en) ?_
      refine tri_false rfl rfl ?_
      refine tri_skip ?_
      refine pn_blk ?_
      refine nx (sl 1 rfl (sl 3 rfl sn)) (el 10 rfl en) ?_
      refine tri_reg mixed hcx ?_ _ _
      refine mv rfl ?_
      refine ad (((i + 1 : Nat) : Int)) rfl rfl rfl (by omega) ?_
      refine asg rfl ?_
      refine ⟨by kernel_rfl, ?_⟩
      exact pn_back (i + 1) (by first | omega | (dsimp only; omega)) (by omega) (sl 1 rfl (sl 3 rfl sn)) (el 10 rfl en)
    · refine tri_exit ?_
      repeat (first | refine pn_then ?_ | refine pn_oth (by decide) ?_)
      refine pn_ex ?_
      refine nx (sl 1 rfl sn) (el 10 rfl en) ?_
      refine tri_seq ?_
      refine tri_reg mixed hcx ?_ _ _
      refine fa rfl fTrR 3 ?_
      refine ld rfl rfl tyQ rfl ?_
      refine ca rfl (h := r03_ValidG (q := false) (by simp [hb]) (by omega)) (hn := ?_)
      refine mv rfl ?_
      refine j_off rfl rfl rfl rfl ?_
      refine j_off rfl rfl rfl rfl ?_
      refine j_off rfl rfl rfl rfl ?_
      refine j_off rfl rfl rfl rfl ?_
      refine j_off rfl rfl rfl rfl ?_
      refine pk rfl rfl ?_
      refine asg rfl ?_
      refine ⟨by kernel_rfl, ?_⟩
      refine nx (sl 2 rfl sn) (el 10 rfl en) ?_
      refine tri_ret ?_
      repeat (first | refine pn_thenr ?_ | refine pn_blkr ?_)
      exact ret1 hcx rfl (rv_tmp rfl) (.refl _) en
  · have htn : ts.length = L.length := by rcases ht with h | h <;> omega
    refine tri_reg mixed hcx ?_ _ _
    refine fa rfl fTrG 0 ?_
    refine ld rfl rfl tyG rfl ?_
    refine ca rfl (h := r05_Good (q := true) (by simp [hG]) (by omega) (by omega) (by omega)) (hn := ?_)
    refine nt rfl _ rfl ?_
    refine mv rfl ?_
    refine fa rfl fTrG 0 ?_ (hg := gd1)
    refine fa rfl fL 1 ?_ (hg := gd1)
    refine ld rfl rfl tyZss rfl ?_ (hg := gd1)
    refine ln slZss rfl ?_ (hg := gd1)
    refine cgt rfl rfl (decide_eq_false (by omega)) ?_ (hg := gd1)
    refine pk rfl rfl ?_
    refine mv rfl ?_
    refine fa rfl fTrT 2 ?_ (hg := gd1)
    refine ld rfl rfl tyQs rfl ?_ (hg := gd1)
    refine ln slQs rfl ?_ (hg := gd1)
    refine cne rfl rfl (decide_eq_true (by omega)) ?_ (hg := gd1)
    refine mv rfl ?_ (hg := gd1)
    refine fa rfl fTrT 2 ?_ (hg := gd1)
    refine ld rfl rfl tyQs rfl ?_ (hg := gd1)
    refine ln slQs rfl ?_ (hg := gd1)
    refine fa rfl fTrG 0 ?_ (hg := gd1)
    refine fa rfl fL 1 ?_ (hg := gd1)
    refine ld rfl rfl tyZss rfl ?_ (hg := gd1)
    refine ln slZss rfl ?_ (hg := gd1)
    refine cne rfl rfl (decide_eq_false (by omega)) ?_ (hg := gd1)
    refine pk rfl rfl ?_ (hg := gd1)
    refine pk rfl rfl ?_
    refine ⟨by kernel_rfl, ?_⟩
    refine nx (sl 1 rfl (sl 30 rfl sn)) (el 10 rfl en) ?_
    refine tri_false rfl rfl ?_
    refine tri_skip ?_
    refine nx (sl 1 rfl sn) (el 10 rfl en) ?_
    refine tri_seq ?_
    refine tri_seq ?_
    refine tri_reg mixed hcx ?_ _ _
    refine asg rfl ?_
    refine ⟨by kernel_rfl, ?_⟩
    refine nx (sl 1 rfl (sl 3 rfl sn)) (el 10 rfl en) ?_
    refine tri_block ?_
    refine tri_loop (ι := Nat) (fun i => [(1, T.p 10 0), (3, T.c (.int .i64 (i : Int)))]) (fun i => [(10, some (Ent.box 91 [T.l (cZi k) D, T.l (cL (cZi k)) L, T.l (cQi k) ts, T.Zi a k, T.Zi b k]))]) (fun i => ts.length - i) (fun i => (i ≤ ts.length)) 0 (Nat.zero_le _) (sl 1 rfl (sl 3 rfl sn)) (el 10 rfl en) ?_
    rintro i hi
    refine tri_sub (sl 1 rfl (sl 3 rfl sn)) (el 10 rfl en) ?_
    refine tri_seq ?_
    refine tri_seq ?_
    refine tri_reg mixed hcx ?_ _ _
    refine mv rfl ?_
    refine fa rfl fTrT 2 ?_
    refine ld rfl rfl tyQs rfl ?_
    refine ln slQs rfl ?_
    refine clt rfl rfl rfl ?_
    refine ⟨by kernel_rfl, ?_⟩
    refine nx (sl 1 rfl (sl 3 rfl (sl 35 rfl sn))) (el 10 rfl en) ?_
    refine tri_if rfl (fun hc => ?_) (fun hc => ?_)
    · have hp : 0 < (ts.getD i (cQi k).dflt).2 := hd i (by omega)
      refine tri_skip ?_
      refine nx (sl 1 rfl (sl 3 rfl sn)) (el 10 rfl en) ?_
      refine tri_seq ?_
      refine tri_block ?_
      refine tri_seq ?_
      refine tri_reg mixed hcx ?_ _ _
      refine fa rfl fTrT 2 ?_
      refine ld rfl rfl tyQs rfl ?_
      refine mv rfl ?_
      refine ix rfl rfl slQs ⟨rfl, by omega⟩ ?_
      refine lf rfl tyQ ?_
      refine ca rfl (h := r03_ValidG (a := (ts.getD i (cQi k).dflt).1) (b := (ts.getD i (cQi k).dflt).2) (k := k) (q := true) (iff_of_true rfl hp) (by omega)) (hn := ?_)
      refine nt rfl _ rfl ?_
      refine ⟨by kernel_rfl, ?_⟩
      refine nx (sl 1 rfl (sl 3 rfl (sl 44 rfl sn))) (el 10 rfl en) ?_
      refine tri_false rfl rfl ?_
      refine tri_skip ?_
      refine pn_blk ?_
      refine nx (sl 1 rfl (sl 3 rfl sn)) (el 10 rfl en) ?_
      refine tri_reg mixed hcx ?_ _ _
      refine mv rfl ?_
      refine ad (((i + 1 : Nat) : Int)) rfl rfl rfl (by omega) ?_
      refine asg rfl ?_
      refine ⟨by kernel_rfl, ?_⟩
      exact pn_back (i + 1) (by first | omega | (dsimp only; omega)) (by omega) (sl 1 rfl (sl 3 rfl sn)) (el 10 rfl en)
    · refine tri_exit ?_
      repeat (first | refine pn_then ?_ | refine pn_oth (by decide) ?_)
      refine pn_ex ?_
      refine nx (sl 1 rfl sn) (el 10 rfl en) ?_
      refine tri_seq ?_
      refine tri_reg mixed hcx ?_ _ _
      refine fa rfl fTrR 3 ?_
      refine ld rfl rfl tyQ rfl ?_
      refine ca rfl (h := r03_ValidG (q := false) (by simp [hb]) (by omega)) (hn := ?_)
      refine mv rfl ?_
      refine j_off rfl rfl rfl rfl ?_
      refine j_off rfl rfl rfl rfl ?_
      refine j_off rfl rfl rfl rfl ?_
      refine j_off rfl rfl rfl rfl ?_
      refine j_off rfl rfl rfl rfl ?_
      refine pk rfl rfl ?_
      refine asg rfl ?_
      refine ⟨by kernel_rfl, ?_⟩
      refine nx (sl 2 rfl sn) (el 10 rfl en) ?_
      refine tri_ret ?_
      repeat (first | refine pn_thenr ?_ | refine pn_blkr ?_)
      exact ret1 hcx rfl (rv_tmp rfl) (.refl _) en

theorem r11_Valid6 {D : List Int} {L : List (List Int)} {ts : List (Int × Int)} {a b : Int} {k : Nat} (hk : k ≤ 1048576) (hLl : L.length ≤ 1048576) (hDl : D.length ≤ 1048576) (htl : ts.length ≤ 1048576) (hG : GoodP D L) (hn : L.length ≤ 12) (ht : ts.length = 0 ∨ ts.length = L.length) (hd : ∀ i, i < ts.length → 0 < (ts.getD i (0, 0)).2) (hb : 0 < b) (ha : ¬ 0 ≤ a) : Fn Tryz.prog 45 [T.Tr D L ts a b k] [] [] [] (T.c (.bool false)) := by
  refine fn_of Tryz.func45 rfl (by show 1 ≤ 55; decide) fun cx hcx => ?_
  refine tri_sub (sl 0 rfl sn) en ?_
  have hsa : sg a = -1 := sg_neg (by omega)
  refine tri_seq ?_
  refine tri_reg mixed hcx ?_ _ _
  refine bxs 10 rfl ?_
  refine asg rfl ?_
  refine ⟨by kernel_rfl, ?_⟩
  refine nx (sl 1 rfl sn) (el 10 rfl en) ?_
  refine tri_seq ?_
  refine tri_seq ?_
  by_cases htz : ts.length = 0
  · refine tri_reg mixed hcx ?_ _ _
    refine fa rfl fTrG 0 ?_
    refine ld rfl rfl tyG rfl ?_
    refine ca rfl (h := r05_Good (q := true) (by simp [hG]) (by omega) (by omega) (by omega)) (hn := ?_)
    refine nt rfl _ rfl ?_
    refine mv rfl ?_
    refine fa rfl fTrG 0 ?_ (hg := gd1)
    refine fa rfl fL 1 ?_ (hg := gd1)
    refine ld rfl rfl tyZss rfl ?_ (hg := gd1)
    refine ln slZss rfl ?_ (hg := gd1)
    refine cgt rfl rfl (decide_eq_false (by omega)) ?_ (hg := gd1)
    refine pk rfl rfl ?_
    refine mv rfl ?_
    refine fa rfl fTrT 2 ?_ (hg := gd1)
    refine ld rfl rfl tyQs rfl ?_ (hg := gd1)
    refine ln slQs rfl ?_ (hg := gd1)
    refine cne rfl rfl (decide_eq_false (by omega)) ?_ (hg := gd1)
    refine mv rfl ?_ (hg := gd1)
    refine j_off rfl rfl rfl rfl ?_
    refine j_off rfl rfl rfl rfl ?_
    refine j_off rfl rfl rfl rfl ?_
    refine j_off rfl rfl rfl rfl ?_
    refine j_off rfl rfl rfl rfl ?_
    refine j_off rfl rfl rfl rfl ?_
    refine j_off rfl rfl rfl rfl ?_
    refine j_off rfl rfl rfl rfl ?_
    refine pk rfl rfl ?_ (hg := gd1)
    refine pk rfl rfl ?_
    refine ⟨by kernel_rfl, ?_⟩
    refine nx (sl 1 rfl (sl 30 rfl sn)) (el 10 rfl en) ?_
    refine tri_false rfl rfl ?_
    refine tri_skip ?_
    refine nx (sl 1 rfl sn) (el 10 rfl en) ?_
    refine tri_seq ?_
    refine tri_seq ?_
    refine tri_reg mixed hcx ?_ _ _
    refine asg rfl ?_
    refine ⟨by kernel_rfl, ?_⟩
    refine nx (sl 1 rfl (sl 3 rfl sn)) (el 10 rfl en) ?_
    refine tri_block ?_
    refine tri_loop (ι := Nat) (fun i => [(1, T.p 10 0), (3, T.c (.int .i64 (i : Int)))]) (fun i => [(10, some (Ent.box 91 [T.l (cZi k) D, T.l (cL (cZi k)) L, T.l (cQi k) ts, T.Zi a k, T.Zi b k]))]) (fun i => ts.length - i) (fun i => (i ≤ ts.length)) 0 (Nat.zero_le _) (sl 1 rfl (sl 3 rfl sn)) (el 10 rfl en) ?_
    rintro i hi
    refine tri_sub (sl 1 rfl (sl 3 rfl sn)) (el 10 rfl en) ?_
    refine tri_seq ?_
    refine tri_seq ?_
    refine tri_reg mixed hcx ?_ _ _
    refine mv rfl ?_
    refine fa rfl fTrT 2 ?_
    refine ld rfl rfl tyQs rfl ?_
    refine ln slQs rfl ?_
    refine clt rfl rfl rfl ?_
    refine ⟨by kernel_rfl, ?_⟩
    refine nx (sl 1 rfl (sl 3 rfl (sl 35 rfl sn))) (el 10 rfl en) ?_
    refine tri_if rfl (fun hc => ?_) (fun hc => ?_)
    · have hp : 0 < (ts.getD i (cQi k).dflt).2 := hd i (by omega)
      refine tri_skip ?_
      refine nx (sl 1 rfl (sl 3 rfl sn)) (el 10 rfl en) ?_
      refine tri_seq ?_
      refine tri_block ?_
      refine tri_seq ?_
      refine tri_reg mixed hcx ?_ _ _
      refine fa rfl fTrT 2 ?_
      refine ld rfl rfl tyQs rfl ?_
      refine mv rfl ?_
      refine ix rfl rfl slQs ⟨rfl, by omega⟩ ?_
      refine lf rfl tyQ ?_
      refine ca rfl (h := r03_ValidG (a := (ts.getD i (cQi k).dflt).1) (b := (ts.getD i (cQi k).dflt).2) (k := k) (q := true) (iff_of_true rfl hp) (by omega)) (hn := ?_)
      refine nt rfl _ rfl ?_
      refine ⟨by kernel_rfl, ?_⟩
      refine nx (sl 1 rfl (sl 3 rfl (sl 44 rfl sn))) (el 10 rfl en) ?_
      refine tri_false rfl rfl ?_
      refine tri_skip ?_
      refine pn_blk ?_
      refine nx (sl 1 rfl (sl 3 rfl sn)) (el 10 rfl en) ?_
      refine tri_reg mixed hcx ?_ _ _
      refine mv rfl ?_
      refine ad (((i + 1 : Nat) : Int)) rfl rfl rfl (by omega) ?_
      refine asg rfl ?_
      refine ⟨by kernel_rfl, ?_⟩
      exact pn_back (i + 1) (by first | omega | (dsimp only; omega)) (by omega) (sl 1 rfl (sl 3 rfl sn)) (el 10 rfl en)
    · refine tri_exit ?_
      repeat (first | refine pn_then ?_ | refine pn_oth (by decide) ?_)
      refine pn_ex ?_
      refine nx (sl 1 rfl sn) (el 10 rfl en) ?_
      refine tri_seq ?_
      refine tri_reg mixed hcx ?_ _ _
      refine fa rfl fTrR 3 ?_
      refine ld rfl rfl tyQ rfl ?_
      refine ca rfl (h := r03_ValidG (q := true) (by simp [hb]) (by omega)) (hn := ?_)
      refine mv rfl ?_
      refine fa rfl fTrR 3 ?_ (hg := gd1)
      refine fa rfl fNum 3 ?_ (hg := gd1)
      refine ld rfl rfl tyZ rfl ?_ (hg := gd1)
      refine ca rfl (h := r02_Sign (by omega)) (hn := ?_) (hg := gd1)
      refine cge rfl rfl (decide_eq_false (by omega)) ?_ (hg := gd1)
      refine pk rfl rfl ?_
      refine asg rfl ?_
      refine ⟨by kernel_rfl, ?_⟩
      refine nx (sl 2 rfl sn) (el 10 rfl en) ?_
      refine tri_ret ?_
      repeat (first | refine pn_thenr ?_ | refine pn_blkr ?_)
      exact ret1 hcx rfl (rv_tmp rfl) (.refl _) en
  · have htn : ts.length = L.length := by rcases ht with h | h <;> omega
    refine tri_reg mixed hcx ?_ _ _
    refine fa rfl fTrG 0 ?_
    refine ld rfl rfl tyG rfl ?_
    refine ca rfl (h := r05_Good (q := true) (by simp [hG]) (by omega) (by omega) (by omega)) (hn := ?_)
    refine nt rfl _ rfl ?_
    refine mv rfl ?_
    refine fa rfl fTrG 0 ?_ (hg := gd1)
    refine fa rfl fL 1 ?_ (hg := gd1)
    refine ld rfl rfl tyZss rfl ?_ (hg := gd1)
    refine ln slZss rfl ?_ (hg := gd1)
    refine cgt rfl rfl (decide_eq_false (by omega)) ?_ (hg := gd1)
    refine pk rfl rfl ?_
    refine mv rfl ?_
    refine fa rfl fTrT 2 ?_ (hg := gd1)
    refine ld rfl rfl tyQs rfl ?_ (hg := gd1)
    refine ln slQs rfl ?_ (hg := gd1)
    refine cne rfl rfl (decide_eq_true (by omega)) ?_ (hg := gd1)
    refine mv rfl ?_ (hg := gd1)
    refine fa rfl fTrT 2 ?_ (hg := gd1)
    refine ld rfl rfl tyQs rfl ?_ (hg := gd1)
    refine ln slQs rfl ?_ (hg := gd1)
    refine fa rfl fTrG 0 ?_ (hg := gd1)
    refine fa rfl fL 1 ?_ (hg := gd1)
    refine ld rfl rfl tyZss rfl ?_ (hg := gd1)
    refine ln slZss rfl ?_ (hg := gd1)
    refine cne rfl rfl (decide_eq_false (by omega)) ?_ (hg := gd1)
    refine pk rfl rfl ?_ (hg := gd1)
    refine pk rfl rfl ?_
    refine ⟨by kernel_rfl, ?_⟩
    refine nx (sl 1 rfl (sl 30 rfl sn)) (el 10 rfl en) ?_
    refine tri_false rfl rfl ?_
    refine tri_skip ?_
    refine nx (sl 1 rfl sn) (el 10 rfl en) ?_
    refine tri_seq ?_
    refine tri_seq ?_
    refine tri_reg mixed hcx ?_ _ _
    refine asg rfl ?_
    refine ⟨by kernel_rfl, ?_⟩
    refine nx (sl 1 rfl (sl 3 rfl sn)) (el 10 rfl en) ?_
    refine tri_block ?_
    refine tri_loop (ι := Nat) (fun i => [(1, T.p 10 0), (3, T.c (.int .i64 (i : Int)))]) (fun i => [(10, some (Ent.box 91 [T.l (cZi k) D, T.l (cL (cZi k)) L, T.l (cQi k) ts, T.Zi a k, T.Zi b k]))]) (fun i => ts.length - i) (fun i => (i ≤ ts.length)) 0 (Nat.zero_le _) (sl 1 rfl (sl 3 rfl sn)) (el 10 rfl en) ?_
    rintro i hi
    refine tri_sub (sl 1 rfl (sl 3 rfl sn)) (el 10 rfl en) ?_
    refine tri_seq ?_
    refine tri_seq ?_
    refine tri_reg mixed hcx ?_ _ _
    refine mv rfl ?_
    refine fa rfl fTrT 2 ?_
    refine ld rfl rfl tyQs rfl ?_
    refine ln slQs rfl ?_
    refine clt rfl rfl rfl ?_
    refine ⟨by kernel_rfl, ?_⟩
    refine nx (sl 1 rfl (sl 3 rfl (sl 35 rfl sn))) (el 10 rfl en) ?_
    refine tri_if rfl (fun hc => ?_) (fun hc => ?_)
    · have hp : 0 < (ts.getD i (cQi k).dflt).2 := hd i (by omega)
      refine tri_skip ?_
      refine nx (sl 1 rfl (sl 3 rfl sn)) (el 10 rfl en) ?_
      refine tri_seq ?_
      refine tri_block ?_
      refine tri_seq ?_
      refine tri_reg mixed hcx ?_ _ _
      refine fa rfl fTrT 2 ?_
      refine ld rfl rfl tyQs rfl ?_
      refine mv rfl ?_
      refine ix rfl rfl slQs ⟨rfl, by omega⟩ ?_
      refine lf rfl tyQ ?_
      refine ca rfl (h := r03_ValidG (a := (ts.getD i (cQi k).dflt).1) (b := (ts.getD i (cQi k).dflt).2) (k := k) (q := true) (iff_of_true rfl hp) (by omega)) (hn := ?_)
      refine nt rfl _ rfl ?_
      refine ⟨by kernel_rfl, ?_⟩
      refine nx (sl 1 rfl (sl 3 rfl (sl 44 rfl sn))) (el 10 rfl en) ?_
      refine tri_false rfl rfl ?_
      refine tri_skip ?_
      refine pn_blk ?_
      refine nx (sl 1 rfl (sl 3 rfl sn)) (el 10 rfl en) ?_
      refine tri_reg mixed hcx ?_ _ _
      refine mv rfl ?_
      refine ad (((i + 1 : Nat) : Int)) rfl rfl rfl (by omega) ?_
      refine asg rfl ?_
      refine ⟨by kernel_rfl, ?_⟩
      exact pn_back (i + 1) (by first | omega | (dsimp only; omega)) (by omega) (sl 1 rfl (sl 3 rfl sn)) (el 10 rfl en)
    · refine tri_exit ?_
      repeat (first | refine pn_then ?_ | refine pn_oth (by decide) ?_)
      refine pn_ex ?_
      refine nx (sl 1 rfl sn) (el 10 rfl en) ?_
      refine tri_seq ?_
      refine tri_reg mixed hcx ?_ _ _
      refine fa rfl fTrR 3 ?_
      refine ld rfl rfl tyQ rfl ?_
      refine ca rfl (h := r03_ValidG (q := true) (by simp [hb]) (by omega)) (hn := ?_)
      refine mv rfl ?_
      refine fa rfl fTrR 3 ?_ (hg := gd1)
      refine fa rfl fNum 3 ?_ (hg := gd1)
      refine ld rfl rfl tyZ rfl ?_ (hg := gd1)
      refine ca rfl (h := r02_Sign (by omega)) (hn := ?_) (hg := gd1)
      refine cge rfl rfl (decide_eq_false (by omega)) ?_ (hg := gd1)
      refine pk rfl rfl ?_
      refine asg rfl ?_
      refine ⟨by kernel_rfl, ?_⟩
      refine nx (sl 2 rfl sn) (el 10 rfl en) ?_
      refine tri_ret ?_
      repeat (first | refine pn_thenr ?_ | refine pn_blkr ?_)
      exact ret1 hcx rfl (rv_tmp rfl) (.refl _) en

theorem r11_Valid7 {D : List Int} {L : List (List Int)} {ts : List (Int × Int)} {a b : Int} {k : Nat} (hk : k ≤ 1048576) (hLl : L.length ≤ 1048576) (hDl : D.length ≤ 1048576) (htl : ts.length ≤ 1048576) (hG : GoodP D L) (hn : L.length ≤ 12) (ht : ts.length = 0 ∨ ts.length = L.length) (hd : ∀ i, i < ts.length → 0 < (ts.getD i (0, 0)).2) (hb : 0 < b) (ha : 0 ≤ a) : Fn Tryz.prog 45 [T.Tr D L ts a b k] [] [] [] (T.c (.bool true)) := by
  refine fn_of Tryz.func45 rfl (by show 1 ≤ 55; decide) fun cx hcx => ?_
  refine tri_sub (sl 0 rfl sn) en ?_
  have hsa : 0 ≤ sg a := sg_nn ha
  refine tri_seq ?_
  refine tri_reg mixed hcx ?_ _ _
  refine bxs 10 rfl ?_
  refine asg rfl ?_
  refine ⟨by kernel_rfl, ?_⟩
  refine nx (sl 1 rfl sn) (el 10 rfl en) ?_
  refine tri_seq ?_
  refine tri_seq ?_
  by_cases htz : ts.length = 0
  · refine tri_reg mixed hcx ?_ _ _
    refine fa rfl fTrG 0 ?_
    refine ld rfl rfl tyG rfl ?_
    refine ca rfl (h := r05_Good (q := true) (by simp [hG]) (by omega) (by omega) (by omega)) (hn := ?_)
    refine nt rfl _ rfl ?_
    refine mv rfl ?_
    refine fa rfl fTrG 0 ?_ (hg := gd1)
    refine fa rfl fL 1 ?_ (hg := gd1)
    refine ld rfl rfl tyZss rfl ?_ (hg := gd1)
    refine ln slZss rfl ?_ (hg := gd1)
    refine cgt rfl rfl (decide_eq_false (by omega)) ?_ (hg := gd1)
    refine pk rfl rfl ?_
    refine mv rfl ?_
    refine fa rfl fTrT 2 ?_ (hg := gd1)
    refine ld rfl rfl tyQs rfl ?_ (hg := gd1)
    refine ln slQs rfl ?_ (hg := gd1)
    refine cne rfl rfl (decide_eq_false (by omega)) ?_ (hg := gd1)
    refine mv rfl ?_ (hg := gd1)
    refine j_off rfl rfl rfl rfl ?_
    refine j_off rfl rfl rfl rfl ?_
    refine j_off rfl rfl rfl rfl ?_
    refine j_off rfl rfl rfl rfl ?_
    refine j_off rfl rfl rfl rfl ?_
    refine j_off rfl rfl rfl rfl ?_
    refine j_off rfl rfl rfl rfl ?_
    refine j_off rfl rfl rfl rfl ?_
    refine pk rfl rfl ?_ (hg := gd1)
    refine pk rfl rfl ?_
    refine ⟨by kernel_rfl, ?_⟩
    refine nx (sl 1 rfl (sl 30 rfl sn)) (el 10 rfl en) ?_
    refine tri_false rfl rfl ?_
    refine tri_skip ?_
    refine nx (sl 1 rfl sn) (el 10 rfl en) ?_
    refine tri_seq ?_
    refine tri_seq ?_
    refine tri_reg mixed hcx ?_ _ _
    refine asg rfl ?_
    refine ⟨by kernel_rfl, ?_⟩
    refine nx (sl 1 rfl (sl 3 rfl sn)) (el 10 rfl en) ?_
    refine tri_block ?_
    refine tri_loop (ι := Nat) (fun i => [(1, T.p 10 0), (3, T.c (.int .i64 (i : Int)))]) (fun i => [(10, some (Ent.box 91 [T.l (cZi k) D, T.l (cL (cZi k)) L, T.l (cQi k) ts, T.Zi a k, T.Zi b k]))]) (fun i => ts.length - i) (fun i => (i ≤ ts.length)) 0 (Nat.zero_le _) (sl 1 rfl (sl 3 rfl sn)) (el 10 rfl en) ?_
    rintro i hi
    refine tri_sub (sl 1 rfl (sl 3 rfl sn)) (el 10 rfl en) ?_
    refine tri_seq ?_
    refine tri_seq ?_
    refine tri_reg mixed hcx ?_ _ _
    refine mv rfl ?_
    refine fa rfl fTrT 2 ?_
    refine ld rfl rfl tyQs rfl ?_
    refine ln slQs rfl ?_
    refine clt rfl rfl rfl ?_
    refine ⟨by kernel_rfl, ?_⟩
    refine nx (sl 1 rfl (sl 3 rfl (sl 35 rfl sn))) (el 10 rfl en) ?_
    refine tri_if rfl (fun hc => ?_) (fun hc => ?_)
    · have hp : 0 < (ts.getD i (cQi k).dflt).2 := hd i (by omega)
      refine tri_skip ?_
      refine nx (sl 1 rfl (sl 3 rfl sn)) (el 10 rfl en) ?_
      refine tri_seq ?_
      refine tri_block ?_
      refine tri_seq ?_
      refine tri_reg mixed hcx ?_ _ _
      refine fa rfl fTrT 2 ?_
      refine ld rfl rfl tyQs rfl ?_
      refine mv rfl ?_
      refine ix rfl rfl slQs ⟨rfl, by omega⟩ ?_
      refine lf rfl tyQ ?_
      refine ca rfl (h := r03_ValidG (a := (ts.getD i (cQi k).dflt).1) (b := (ts.getD i (cQi k).dflt).2) (k := k) (q := true) (iff_of_true rfl hp) (by omega)) (hn := ?_)
      refine nt rfl _ rfl ?_
      refine ⟨by kernel_rfl, ?_⟩
      refine nx (sl 1 rfl (sl 3 rfl (sl 44 rfl sn))) (el 10 rfl en) ?_
      refine tri_false rfl rfl ?_
      refine tri_skip ?_
      refine pn_blk ?_
      refine nx (sl 1 rfl (sl 3 rfl sn)) (el 10 rfl en) ?_
      refine tri_reg mixed hcx ?_ _ _
      refine mv rfl ?_
      refine ad (((i + 1 : Nat) : Int)) rfl rfl rfl (by omega) ?_
      refine asg rfl ?_
      refine ⟨by kernel_rfl, ?_⟩
      exact pn_back (i + 1) (by first | omega | (dsimp only; omega)) (by omega) (sl 1 rfl (sl 3 rfl sn)) (el 10 rfl en)
    · refine tri_exit ?_
      repeat (first | refine pn_then ?_ | refine pn_oth (by decide) ?_)
      refine pn_ex ?_
      refine nx (sl 1 rfl sn) (el 10 rfl en) ?_
      refine tri_seq ?_
      refine tri_reg mixed hcx ?_ _ _
      refine fa rfl fTrR 3 ?_
      refine ld rfl rfl tyQ rfl ?_
      refine ca rfl (h := r03_ValidG (q := true) (by simp [hb]) (by omega)) (hn := ?_)
      refine mv rfl ?_
      refine fa rfl fTrR 3 ?_ (hg := gd1)
      refine fa rfl fNum 3 ?_ (hg := gd1)
      refine ld rfl rfl tyZ rfl ?_ (hg := gd1)
      refine ca rfl (h := r02_Sign (by omega)) (hn := ?_) (hg := gd1)
      refine cge rfl rfl (decide_eq_true (by omega)) ?_ (hg := gd1)
      refine pk rfl rfl ?_
      refine asg rfl ?_
      refine ⟨by kernel_rfl, ?_⟩
      refine nx (sl 2 rfl sn) (el 10 rfl en) ?_
      refine tri_ret ?_
      repeat (first | refine pn_thenr ?_ | refine pn_blkr ?_)
      exact ret1 hcx rfl (rv_tmp rfl) (.refl _) en
  · have htn : ts.length = L.length := by rcases ht with h | h <;> omega
    refine tri_reg mixed hcx ?_ _ _
    refine fa rfl fTrG 0 ?_
    refine ld rfl rfl tyG rfl ?_
    refine ca rfl (h := r05_Good (q := true) (by simp [hG]) (by omega) (by omega) (by omega)) (hn := ?_)
    refine nt rfl _ rfl ?_
    refine mv rfl ?_
    refine fa rfl fTrG 0 ?_ (hg := gd1)
    refine fa rfl fL 1 ?_ (hg := gd1)
    refine ld rfl rfl tyZss rfl ?_ (hg := gd1)
    refine ln slZss rfl ?_ (hg := gd1)
    refine cgt rfl rfl (decide_eq_false (by omega)) ?_ (hg := gd1)
    refine pk rfl rfl ?_
    refine mv rfl ?_
    refine fa rfl fTrT 2 ?_ (hg := gd1)
    refine ld rfl rfl tyQs rfl ?_ (hg := gd1)
    refine ln slQs rfl ?_ (hg := gd1)
    refine cne rfl rfl (decide_eq_true (by omega)) ?_ (hg := gd1)
    refine mv rfl ?_ (hg := gd1)
    refine fa rfl fTrT 2 ?_ (hg := gd1)
    refine ld rfl rfl tyQs rfl ?_ (hg := gd1)
    refine ln slQs rfl ?_ (hg := gd1)
    refine fa rfl fTrG 0 ?_ (hg := gd1)
    refine fa rfl fL 1 ?_ (hg := gd1)
    refine ld rfl rfl tyZss rfl ?_ (hg := gd1)
    refine ln slZss rfl ?_ (hg := gd1)
    refine cne rfl rfl (decide_eq_false (by omega)) ?_ (hg := gd1)
    refine pk rfl rfl ?_ (hg := gd1)
    refine pk rfl rfl ?_
    refine ⟨by kernel_rfl, ?_⟩
    refine nx (sl 1 rfl (sl 30 rfl sn)) (el 10 rfl en) ?_
    refine tri_false rfl rfl ?_
    refine tri_skip ?_
    refine nx (sl 1 rfl sn) (el 10 rfl en) ?_
    refine tri_seq ?_
    refine tri_seq ?_
    refine tri_reg mixed hcx ?_ _ _
    refine asg rfl ?_
    refine ⟨by kernel_rfl, ?_⟩
    refine nx (sl 1 rfl (sl 3 rfl sn)) (el 10 rfl en) ?_
    refine tri_block ?_
    refine tri_loop (ι := Nat) (fun i => [(1, T.p 10 0), (3, T.c (.int .i64 (i : Int)))]) (fun i => [(10, some (Ent.box 91 [T.l (cZi k) D, T.l (cL (cZi k)) L, T.l (cQi k) ts, T.Zi a k, T.Zi b k]))]) (fun i => ts.length - i) (fun i => (i ≤ ts.length)) 0 (Nat.zero_le _) (sl 1 rfl (sl 3 rfl sn)) (el 10 rfl en) ?_
    rintro i hi
    refine tri_sub (sl 1 rfl (sl 3 rfl sn)) (el 10 rfl en) ?_
    refine tri_seq ?_
    refine tri_seq ?_
    refine tri_reg mixed hcx ?_ _ _
    refine mv rfl ?_
    refine fa rfl fTrT 2 ?_
    refine ld rfl rfl tyQs rfl ?_
    refine ln slQs rfl ?_
    refine clt rfl rfl rfl ?_
    refine ⟨by kernel_rfl, ?_⟩
    refine nx (sl 1 rfl (sl 3 rfl (sl 35 rfl sn))) (el 10 rfl en) ?_
    refine tri_if rfl (fun hc => ?_) (fun hc => ?_)
    · have hp : 0 < (ts.getD i (cQi k).dflt).2 := hd i (by omega)
      refine tri_skip ?_
      refine nx (sl 1 rfl (sl 3 rfl sn)) (el 10 rfl en) ?_
      refine tri_seq ?_
      refine tri_block ?_
      refine tri_seq ?_
      refine tri_reg mixed hcx ?_ _ _
      refine fa rfl fTrT 2 ?_
      refine ld rfl rfl tyQs rfl ?_
      refine mv rfl ?_
      refine ix rfl rfl slQs ⟨rfl, by omega⟩ ?_
      refine lf rfl tyQ ?_
      refine ca rfl (h := r03_ValidG (a := (ts.getD i (cQi k).dflt).1) (b := (ts.getD i (cQi k).dflt).2) (k := k) (q := true) (iff_of_true rfl hp) (by omega)) (hn := ?_)
      refine nt rfl _ rfl ?_
      refine ⟨by kernel_rfl, ?_⟩
      refine nx (sl 1 rfl (sl 3 rfl (sl 44 rfl sn))) (el 10 rfl en) ?_
      refine tri_false rfl rfl ?_
      refine tri_skip ?_
      refine pn_blk ?_
      refine nx (sl 1 rfl (sl 3 rfl sn)) (el 10 rfl en) ?_
      refine tri_reg mixed hcx ?_ _ _
      refine mv rfl ?_
      refine ad (((i + 1 : Nat) : Int)) rfl rfl rfl (by omega) ?_
      refine asg rfl ?_
      refine ⟨by kernel_rfl, ?_⟩
      exact pn_back (i + 1) (by first | omega | (dsimp only; omega)) (by omega) (sl 1 rfl (sl 3 rfl sn)) (el 10 rfl en)
    · refine tri_exit ?_
      repeat (first | refine pn_then ?_ | refine pn_oth (by decide) ?_)
      refine pn_ex ?_
      refine nx (sl 1 rfl sn) (el 10 rfl en) ?_
      refine tri_seq ?_
      refine tri_reg mixed hcx ?_ _ _
      refine fa rfl fTrR 3 ?_
      refine ld rfl rfl tyQ rfl ?_
      refine ca rfl (h := r03_ValidG (q := true) (by simp [hb]) (by omega)) (hn := ?_)
      refine mv rfl ?_
      refine fa rfl fTrR 3 ?_ (hg := gd1)
      refine fa rfl fNum 3 ?_ (hg := gd1)
      refine ld rfl rfl tyZ rfl ?_ (hg := gd1)
      refine ca rfl (h := r02_Sign (by omega)) (hn := ?_) (hg := gd1)
      refine cge rfl rfl (decide_eq_true (by omega)) ?_ (hg := gd1)
      refine pk rfl rfl ?_
      refine asg rfl ?_
      refine ⟨by kernel_rfl, ?_⟩
      refine nx (sl 2 rfl sn) (el 10 rfl en) ?_
      refine tri_ret ?_
      repeat (first | refine pn_thenr ?_ | refine pn_blkr ?_)
      exact ret1 hcx rfl (rv_tmp rfl) (.refl _) en

theorem r11_Valid_no {D : List Int} {L : List (List Int)} {ts : List (Int × Int)} {a b : Int} {k : Nat} (hk : k ≤ 1048576) (hLl : L.length ≤ 1048576) (hDl : D.length ≤ 1048576) (htl : ts.length ≤ 1048576) (hV : ¬ TrV D L ts a b) : Fn Tryz.prog 45 [T.Tr D L ts a b k] [] [] [] (T.c (.bool false)) := by
  classical
  by_cases hG : GoodP D L
  · by_cases hn : L.length ≤ 12
    · by_cases ht : ts.length = 0 ∨ ts.length = L.length
      · by_cases hd : ∀ i, i < ts.length → 0 < (ts.getD i (0, 0)).2
        · by_cases hb : 0 < b
          · exact r11_Valid6 hk hLl hDl htl hG hn ht hd hb (fun ha => hV ⟨hG, hn, ht, hd, hb, ha⟩)
          · exact r11_Valid5 hk hLl hDl htl hG hn ht hd hb
        · obtain ⟨w, h1, h2, h3⟩ := least_bad hd
          exact r11_Valid4 hk hLl hDl htl hG hn ht h1 h2 h3
      · exact r11_Valid3 hk hLl hDl htl hG hn (fun h => ht (.inl h)) (fun h => ht (.inr h))
    · exact r11_Valid2 hk hLl hDl htl hG (by omega)
  · exact r11_Valid1 hk hLl hDl htl hG

theorem r11_aim {D : List Int} {L : List (List Int)} {ts : List (Int × Int)} {a b : Int} {n k : Nat} (h : TrS D L ts n k) {i : Nat} (hi : i < n) : Fn Tryz.prog 114 [T.Tr D L ts a b k, T.c (.int .i64 (i : Int))] [] [] [] (T.Q (aqT ts i) (k + 2)) := by
  refine fn_of Tryz.func114 rfl (by show 2 ≤ 24; decide) fun cx hcx => ?_
  refine tri_sub (sl 0 rfl (sl 1 rfl sn)) en ?_
  have hn12 := h.twelve
  have hkk := h.hk
  have hlL := h.len
  have hn0 := h.pos
  refine tri_seq ?_
  refine tri_reg mixed hcx ?_ _ _
  refine bxs 10 rfl ?_
  refine nw 11 zeQ ?_
  refine ⟨by kernel_rfl, ?_⟩
  refine nx (sl 1 rfl (sl 2 rfl (sl 4 rfl sn))) (el 10 rfl (el 11 rfl en)) ?_
  refine tri_seq ?_
  refine tri_seq ?_
  by_cases htz : ts.length = 0
  · refine tri_reg mixed hcx ?_ _ _
    refine fa rfl fTrT 2 ?_
    refine ld rfl rfl tyQs rfl ?_
    refine ln slQs rfl ?_
    refine ceq rfl rfl (decide_eq_true (by omega)) ?_
    refine ⟨by kernel_rfl, ?_⟩
    refine nx (sl 1 rfl (sl 2 rfl (sl 4 rfl (sl 8 rfl sn)))) (el 10 rfl (el 11 rfl en)) ?_
    refine tri_true rfl rfl ?_
    refine tri_seq ?_
    refine tri_reg mixed hcx ?_ _ _
    refine bu stZ rfl ?_
    refine ca rfl (h := r03_Of (by omega)) (hn := ?_)
    refine st rfl rfl rfl tyQ rfl ?_
    refine ⟨by kernel_rfl, ?_⟩
    refine nx (sl 4 rfl sn) (el 10 rfl (el 11 rfl en)) ?_
    refine tri_ret ?_
    repeat (first | refine pn_thenr ?_ | refine pn_blkr ?_)
    exact ret1 hcx rfl (rv_cell (c' := cx) (n := 0) rfl rfl tyQ rfl) (q_qb (by unfold aqT; rw [if_pos htz]; rfl) (h.a hi)) en
  · have hti : i < ts.length := by rcases h.tl with h1 | h1 <;> omega
    have hte : 0 < (ts.getD i (cQi k).dflt).2 := h.tp i hti
    refine tri_reg mixed hcx ?_ _ _
    refine fa rfl fTrT 2 ?_
    refine ld rfl rfl tyQs rfl ?_
    refine ln slQs rfl ?_
    refine ceq rfl rfl (decide_eq_false (by omega)) ?_
    refine ⟨by kernel_rfl, ?_⟩
    refine nx (sl 1 rfl (sl 2 rfl (sl 4 rfl (sl 8 rfl sn)))) (el 10 rfl (el 11 rfl en)) ?_
    refine tri_false rfl rfl ?_
    refine tri_skip ?_
    refine nx (sl 1 rfl (sl 2 rfl (sl 4 rfl sn))) (el 10 rfl (el 11 rfl en)) ?_
    refine tri_seq ?_
    refine tri_reg mixed hcx ?_ _ _
    refine fa rfl fTrT 2 ?_
    refine ld rfl rfl tyQs rfl ?_
    refine mv rfl ?_
    refine ix rfl rfl slQs ⟨rfl, by omega⟩ ?_
    refine ff rfl fNum rfl ?_
    refine lf rfl tyZ ?_
    refine fa rfl fTrT 2 ?_
    refine ld rfl rfl tyQs rfl ?_
    refine mv rfl ?_
    refine ix rfl rfl slQs ⟨rfl, by omega⟩ ?_
    refine ff rfl fDen rfl ?_
    refine lf rfl tyZ ?_
    refine ca rfl (h := r03_Make (a := (ts.getD i (cQi k).dflt).1) (b := (ts.getD i (cQi k).dflt).2) (k := k) (l := k) (by omega) (by omega) (by omega)) (hn := ?_)
    refine st rfl rfl rfl tyQ rfl ?_
    refine ⟨by kernel_rfl, ?_⟩
    refine nx (sl 4 rfl sn) (el 10 rfl (el 11 rfl en)) ?_
    refine tri_ret ?_
    repeat (first | refine pn_thenr ?_ | refine pn_blkr ?_)
    exact ret1 hcx rfl (rv_cell (c' := cx) (n := 0) rfl rfl tyQ rfl) (q_qb (by unfold aqT; rw [if_neg htz]; rfl) (h.a hi)) en

theorem r11_Centre {D : List Int} {L : List (List Int)} {ts : List (Int × Int)} {a b : Int} {n k : Nat} (h : TrS D L ts n k) {s : List Int} (hs : s.length + 1 ≤ n) : Fn Tryz.prog 50 [T.Tr D L ts a b k, T.l (cZi k) s] [] [] [] (T.Q (ctT D L ts s (n - 1) (n - 1 - s.length) s.length) 67108864) := by
  refine fn_of Tryz.func50 rfl (by show 2 ≤ 52; decide) fun cx hcx => ?_
  refine tri_sub (sl 0 rfl (sl 1 rfl sn)) en ?_
  have hn12 := h.twelve
  have hkk := h.hk
  have hlL := h.len
  have hn0 := h.pos
  refine tri_lz 1 rfl fun hz => ?_
  have hQ := fun e (he : n - 1 - s.length + e ≤ n - 1) => h.ct' hz (m := n - 1) (i := n - 1 - s.length) (c := e) (by omega) he
  refine tri_seq ?_
  refine tri_reg mixed hcx ?_ _ _
  refine bxs 10 rfl ?_
  refine nw 11 zeQ ?_
  refine ⟨by kernel_rfl, ?_⟩
  refine nx (sl 1 rfl (sl 2 rfl (sl 4 rfl sn))) (el 10 rfl (el 11 rfl en)) ?_
  refine tri_seq ?_
  refine tri_reg mixed hcx ?_ _ _
  refine fa rfl fTrG 0 ?_
  refine fa rfl fL 1 ?_
  refine ld rfl rfl tyZss rfl ?_
  refine ln slZss rfl ?_
  refine asg rfl ?_
  refine ⟨by kernel_rfl, ?_⟩
  refine nx (sl 1 rfl (sl 2 rfl (sl 4 rfl (sl 5 rfl sn)))) (el 10 rfl (el 11 rfl en)) ?_
  refine tri_seq ?_
  refine tri_reg mixed hcx ?_ _ _
  refine mv rfl ?_
  refine sb (((n - 1 : Nat) : Int)) rfl rfl rfl (by omega) ?_
  refine mv rfl ?_
  refine ln slZs rfl ?_
  refine sb (((n - 1 - s.length : Nat) : Int)) rfl rfl rfl (by omega) ?_
  refine asg rfl ?_
  refine ⟨by kernel_rfl, ?_⟩
  refine nx (sl 1 rfl (sl 2 rfl (sl 4 rfl (sl 5 rfl (sl 6 rfl sn))))) (el 10 rfl (el 11 rfl en)) ?_
  refine tri_seq ?_
  refine tri_reg mixed hcx ?_ _ _
  refine ld rfl rfl tyTr rfl ?_
  refine mv rfl ?_
  refine ca rfl (h := r11_aim h (by omega)) (hn := ?_)
  refine nw 313 zeQ ?_
  refine st rfl rfl rfl tyQ rfl ?_
  refine ⟨by kernel_rfl, ?_⟩
  refine nx (sl 1 rfl (sl 2 rfl (sl 4 rfl (sl 5 rfl (sl 6 rfl (sl 7 rfl sn)))))) (el 10 rfl (el 11 rfl (el 313 rfl en))) ?_
  refine tri_seq ?_
  refine tri_seq ?_
  refine tri_reg mixed hcx ?_ _ _
  refine asg rfl ?_
  refine ⟨by kernel_rfl, ?_⟩
  refine nx (sl 1 rfl (sl 2 rfl (sl 4 rfl (sl 5 rfl (sl 6 rfl (sl 7 rfl (sl 8 rfl sn))))))) (el 10 rfl (el 11 rfl (el 313 rfl en))) ?_
  refine tri_block ?_
  refine tri_loop (ι := Nat) (fun e => [(1, T.l (cZi k) s), (2, T.p 10 0), (4, T.p 11 0), (5, T.c (.int .i64 (L.length : Int))), (6, T.c (.int .i64 ((n - 1 - s.length : Nat) : Int))), (7, T.p 313 0), (8, T.c (.int .i64 (e : Int)))]) (fun e => [(10, some (Ent.box 91 [T.l (cZi k) D, T.l (cL (cZi k)) L, T.l (cQi k) ts, T.Zi a k, T.Zi b k])), (11, some (Ent.box 31 [T.c (.bool false), T.c (.slice none 0 0), T.c (.bool false), T.c (.slice none 0 0)])), (313, some (Ent.box 31 [T.Q (ctT D L ts s (n - 1) (n - 1 - s.length) e) 67108864]))]) (fun e => s.length - e) (fun e => (e ≤ s.length)) 0 (Nat.zero_le _) (sl 1 rfl (sl 2 rfl (sl 4 rfl (sl 5 rfl (sl 6 rfl (sl 7 rfl (sl 8 rfl sn))))))) (el 10 rfl (el 11 rfl (ew 313 rfl (box_q (q_qb rfl (hQ 0 (by omega)))) en))) ?_
  rintro e he
  refine tri_sub (sl 1 rfl (sl 2 rfl (sl 4 rfl (sl 5 rfl (sl 6 rfl (sl 7 rfl (sl 8 rfl sn))))))) (el 10 rfl (el 11 rfl (el 313 rfl en))) ?_
  refine tri_seq ?_
  refine tri_seq ?_
  refine tri_reg mixed hcx ?_ _ _
  refine mv rfl ?_
  refine mv rfl ?_
  refine ln slZs rfl ?_
  refine clt rfl rfl rfl ?_
  refine ⟨by kernel_rfl, ?_⟩
  refine nx (sl 1 rfl (sl 2 rfl (sl 4 rfl (sl 5 rfl (sl 6 rfl (sl 7 rfl (sl 8 rfl (sl 26 rfl sn)))))))) (el 10 rfl (el 11 rfl (el 313 rfl en))) ?_
  refine tri_if rfl (fun hc => ?_) (fun hc => ?_)
  · refine tri_skip ?_
    refine nx (sl 1 rfl (sl 2 rfl (sl 4 rfl (sl 5 rfl (sl 6 rfl (sl 7 rfl (sl 8 rfl sn))))))) (el 10 rfl (el 11 rfl (el 313 rfl en))) ?_
    refine tri_seq ?_
    refine tri_block ?_
    refine tri_seq ?_
    refine tri_reg mixed hcx ?_ _ _
    refine mv rfl ?_
    refine sb (((n - 1 : Nat) : Int)) rfl rfl rfl (by omega) ?_
    refine mv rfl ?_
    refine sb (((n - 1 - e : Nat) : Int)) rfl rfl rfl (by omega) ?_
    refine asg rfl ?_
    refine ⟨by kernel_rfl, ?_⟩
    refine nx (sl 1 rfl (sl 2 rfl (sl 4 rfl (sl 5 rfl (sl 6 rfl (sl 7 rfl (sl 8 rfl (sl 9 rfl sn)))))))) (el 10 rfl (el 11 rfl (el 313 rfl en))) ?_
    refine tri_seq ?_
    refine tri_reg mixed hcx ?_ _ _
    refine mv rfl ?_
    refine mv rfl ?_
    refine ix rfl rfl slZs ⟨rfl, by omega⟩ ?_
    refine lf rfl tyZ ?_
    refine ca rfl (h := r03_Of (by omega)) (hn := ?_)
    refine ld rfl rfl tyTr rfl ?_
    refine mv rfl ?_
    refine ca rfl (h := r11_aim h (by omega)) (hn := ?_)
    refine cb rfl (h := r3v_Sub (by omega) (by omega)) (hn := ?_)
    refine nw 819 zeQ ?_
    refine st rfl rfl rfl tyQ rfl ?_
    refine ⟨by kernel_rfl, ?_⟩
    refine nx (sl 1 rfl (sl 2 rfl (sl 4 rfl (sl 5 rfl (sl 6 rfl (sl 7 rfl (sl 8 rfl (sl 9 rfl (sl 10 rfl sn))))))))) (el 10 rfl (el 11 rfl (el 313 rfl (el 819 rfl en)))) ?_
    refine tri_reg mixed hcx ?_ _ _
    refine ld rfl rfl tyQ rfl ?_
    refine fa rfl fTrG 0 ?_
    refine ld rfl rfl tyG rfl ?_
    refine mv rfl ?_
    refine mv rfl ?_
    refine ca rfl (h := r05_Mu (k := k) (i := n - 1 - e) (j := n - 1 - s.length) (by omega) (by omega) h.good (by omega) (by omega)) (hn := ?_)
    refine ld rfl rfl tyQ rfl ?_
    refine cb rfl (h := r3v_Mul (by omega) (by omega)) (hn := ?_)
    refine cb rfl (h := r3v_Sub (by omega) (by omega)) (hn := ?_)
    refine st rfl rfl rfl tyQ rfl ?_
    refine ⟨by kernel_rfl, ?_⟩
    refine pn_blk ?_
    refine nx (sl 1 rfl (sl 2 rfl (sl 4 rfl (sl 5 rfl (sl 6 rfl (sl 7 rfl (sl 8 rfl sn))))))) (el 10 rfl (el 11 rfl (el 313 rfl (el 819 rfl en)))) ?_
    refine tri_reg mixed hcx ?_ _ _
    refine mv rfl ?_
    refine ad (((e + 1 : Nat) : Int)) rfl rfl rfl (by omega) ?_
    refine asg rfl ?_
    refine ⟨by kernel_rfl, ?_⟩
    exact pn_back (e + 1) (by first | omega | (dsimp only; omega)) (by omega) (sl 1 rfl (sl 2 rfl (sl 4 rfl (sl 5 rfl (sl 6 rfl (sl 7 rfl (sl 8 rfl sn))))))) (el 10 rfl (el 11 rfl (ew 313 rfl (box_q (q_qb (congrArg (fun z => ctT D L ts s (n - 1) (n - 1 - s.length) e - z) (Rat.mul_comm _ _)) (hQ (e + 1) (by omega)))) en)))
  · refine tri_exit ?_
    repeat (first | refine pn_then ?_ | refine pn_oth (by decide) ?_)
    refine pn_ex ?_
    have hes : e = s.length := by omega
    refine nx (sl 4 rfl (sl 7 rfl sn)) (el 10 rfl (el 11 rfl (el 313 rfl en))) ?_
    refine tri_seq ?_
    refine tri_reg mixed hcx ?_ _ _
    refine ld rfl rfl tyQ rfl ?_
    refine st rfl rfl rfl tyQ rfl ?_
    refine ⟨by kernel_rfl, ?_⟩
    refine nx (sl 4 rfl sn) (el 10 rfl (el 11 rfl (el 313 rfl en))) ?_
    refine tri_ret ?_
    repeat (first | refine pn_thenr ?_ | refine pn_blkr ?_)
    exact ret1 hcx rfl (rv_cell (c' := cx) (n := 0) rfl rfl tyQ rfl) (q_eq (by rw [hes]) (Nat.le_refl _)) en

theorem r11_Part {D : List Int} {L : List (List Int)} {ts : List (Int × Int)} {a b : Int} {n k : Nat} (h : TrS D L ts n k) {s : List Int} (hs : s.length ≤ n) : Fn Tryz.prog 48 [T.Tr D L ts a b k, T.l (cZi k) s] [] [] [] (T.Q (ptT D L ts s (n - 1) s.length) 2147483648) := by
  refine fn_of Tryz.func48 rfl (by show 2 ≤ 46; decide) fun cx hcx => ?_
  refine tri_sub (sl 0 rfl (sl 1 rfl sn)) en ?_
  have hn12 := h.twelve
  have hkk := h.hk
  have hlL := h.len
  have hn0 := h.pos
  refine tri_lz 1 rfl fun hz => ?_
  have hQ := fun e (he : e ≤ n) => h.pt' hz (m := n - 1) (c := e) (by omega) he
  refine tri_seq ?_
  refine tri_reg mixed hcx ?_ _ _
  refine bxs 10 rfl ?_
  refine nw 11 zeQ ?_
  refine ⟨by kernel_rfl, ?_⟩
  refine nx (sl 1 rfl (sl 2 rfl (sl 4 rfl sn))) (el 10 rfl (el 11 rfl en)) ?_
  refine tri_seq ?_
  refine tri_reg mixed hcx ?_ _ _
  refine bu stZ rfl ?_
  refine ca rfl (h := r03_Of (by omega)) (hn := ?_)
  refine nw 112 zeQ ?_
  refine st rfl rfl rfl tyQ rfl ?_
  refine ⟨by kernel_rfl, ?_⟩
  refine nx (sl 1 rfl (sl 2 rfl (sl 4 rfl (sl 5 rfl sn)))) (el 10 rfl (el 11 rfl (el 112 rfl en))) ?_
  refine tri_seq ?_
  refine tri_seq ?_
  refine tri_reg mixed hcx ?_ _ _
  refine asg rfl ?_
  refine ⟨by kernel_rfl, ?_⟩
  refine nx (sl 1 rfl (sl 2 rfl (sl 4 rfl (sl 5 rfl (sl 6 rfl sn))))) (el 10 rfl (el 11 rfl (el 112 rfl en))) ?_
  refine tri_block ?_
  refine tri_loop (ι := Nat) (fun e => [(1, T.l (cZi k) s), (2, T.p 10 0), (4, T.p 11 0), (5, T.p 112 0), (6, T.c (.int .i64 (e : Int)))]) (fun e => [(10, some (Ent.box 91 [T.l (cZi k) D, T.l (cL (cZi k)) L, T.l (cQi k) ts, T.Zi a k, T.Zi b k])), (11, some (Ent.box 31 [T.c (.bool false), T.c (.slice none 0 0), T.c (.bool false), T.c (.slice none 0 0)])), (112, some (Ent.box 31 [T.Q (ptT D L ts s (n - 1) e) 2147483648]))]) (fun e => s.length - e) (fun e => (e ≤ s.length)) 0 (Nat.zero_le _) (sl 1 rfl (sl 2 rfl (sl 4 rfl (sl 5 rfl (sl 6 rfl sn))))) (el 10 rfl (el 11 rfl (ew 112 rfl (box_q (q_qb (by rfl) (hQ 0 (by omega)))) en))) ?_
  rintro e he
  refine tri_sub (sl 1 rfl (sl 2 rfl (sl 4 rfl (sl 5 rfl (sl 6 rfl sn))))) (el 10 rfl (el 11 rfl (el 112 rfl en))) ?_
  refine tri_seq ?_
  refine tri_seq ?_
  refine tri_reg mixed hcx ?_ _ _
  refine mv rfl ?_
  refine mv rfl ?_
  refine ln slZs rfl ?_
  refine clt rfl rfl rfl ?_
  refine ⟨by kernel_rfl, ?_⟩
  refine nx (sl 1 rfl (sl 2 rfl (sl 4 rfl (sl 5 rfl (sl 6 rfl (sl 14 rfl sn)))))) (el 10 rfl (el 11 rfl (el 112 rfl en))) ?_
  refine tri_if rfl (fun hc => ?_) (fun hc => ?_)
  · have htk : (s.take e).length = e := by rw [List.length_take]; omega
    have hCt := fn_out (r11_Centre (a := a) (b := b) (s := s.take e) h (by omega)) (q_eq (q' := ctT D L ts s (n - 1) (n - 1 - e) e) (by rw [htk]; exact ctT_ext fun j hj => by rw [take_getD hj]) (Nat.le_refl _))
    refine tri_skip ?_
    refine nx (sl 1 rfl (sl 2 rfl (sl 4 rfl (sl 5 rfl (sl 6 rfl sn))))) (el 10 rfl (el 11 rfl (el 112 rfl en))) ?_
    refine tri_seq ?_
    refine tri_block ?_
    refine tri_seq ?_
    refine tri_reg mixed hcx ?_ _ _
    refine fa rfl fTrG 0 ?_
    refine fa rfl fL 1 ?_
    refine ld rfl rfl tyZss rfl ?_
    refine ln slZss rfl ?_
    refine sb (((n - 1 : Nat) : Int)) rfl rfl rfl (by omega) ?_
    refine mv rfl ?_
    refine sb (((n - 1 - e : Nat) : Int)) rfl rfl rfl (by omega) ?_
    refine asg rfl ?_
    refine ⟨by kernel_rfl, ?_⟩
    refine nx (sl 1 rfl (sl 2 rfl (sl 4 rfl (sl 5 rfl (sl 6 rfl (sl 7 rfl sn)))))) (el 10 rfl (el 11 rfl (el 112 rfl en))) ?_
    refine tri_seq ?_
    refine tri_reg mixed hcx ?_ _ _
    refine mv rfl ?_
    refine mv rfl ?_
    refine ix rfl rfl slZs ⟨rfl, by omega⟩ ?_
    refine lf rfl tyZ ?_
    refine ca rfl (h := r03_Of (by omega)) (hn := ?_)
    refine ld rfl rfl tyTr rfl ?_
    refine mv rfl ?_
    refine mv rfl ?_
    refine sh rfl slZs rfl ⟨rfl, by omega⟩ ?_
    refine ca rfl (h := hCt) (hn := ?_)
    refine cb rfl (h := r3v_Sub (by omega) (by omega)) (hn := ?_)
    refine nw 621 zeQ ?_
    refine st rfl rfl rfl tyQ rfl ?_
    refine ⟨by kernel_rfl, ?_⟩
    refine nx (sl 1 rfl (sl 2 rfl (sl 4 rfl (sl 5 rfl (sl 6 rfl (sl 7 rfl (sl 8 rfl sn))))))) (el 10 rfl (el 11 rfl (el 112 rfl (el 621 rfl en)))) ?_
    refine tri_reg mixed hcx ?_ _ _
    refine ld rfl rfl tyQ rfl ?_
    refine ld rfl rfl tyQ rfl ?_
    refine ld rfl rfl tyQ rfl ?_
    refine cb rfl (h := r3v_Mul (by omega) (by omega)) (hn := ?_)
    refine fa rfl fTrG 0 ?_
    refine ld rfl rfl tyG rfl ?_
    refine mv rfl ?_
    refine ca rfl (h := r05_Star (k := k) (i := n - 1 - e) (by omega) (by omega) h.good (by omega)) (hn := ?_)
    refine cb rfl (h := r3v_Mul (by omega) (by omega)) (hn := ?_)
    refine cb rfl (h := r3v_Add (by omega) (by omega)) (hn := ?_)
    refine st rfl rfl rfl tyQ rfl ?_
    refine ⟨by kernel_rfl, ?_⟩
    refine pn_blk ?_
    refine nx (sl 1 rfl (sl 2 rfl (sl 4 rfl (sl 5 rfl (sl 6 rfl sn))))) (el 10 rfl (el 11 rfl (el 112 rfl (el 621 rfl en)))) ?_
    refine tri_reg mixed hcx ?_ _ _
    refine mv rfl ?_
    refine ad (((e + 1 : Nat) : Int)) rfl rfl rfl (by omega) ?_
    refine asg rfl ?_
    refine ⟨by kernel_rfl, ?_⟩
    exact pn_back (e + 1) (by first | omega | (dsimp only; omega)) (by omega) (sl 1 rfl (sl 2 rfl (sl 4 rfl (sl 5 rfl (sl 6 rfl sn))))) (el 10 rfl (el 11 rfl (ew 112 rfl (box_q (q_qb rfl (hQ (e + 1) (by omega)))) en)))
  · refine tri_exit ?_
    repeat (first | refine pn_then ?_ | refine pn_oth (by decide) ?_)
    refine pn_ex ?_
    have hes : e = s.length := by omega
    refine nx (sl 4 rfl (sl 5 rfl sn)) (el 10 rfl (el 11 rfl (el 112 rfl en))) ?_
    refine tri_seq ?_
    refine tri_reg mixed hcx ?_ _ _
    refine ld rfl rfl tyQ rfl ?_
    refine st rfl rfl rfl tyQ rfl ?_
    refine ⟨by kernel_rfl, ?_⟩
    refine nx (sl 4 rfl sn) (el 10 rfl (el 11 rfl (el 112 rfl en))) ?_
    refine tri_ret ?_
    repeat (first | refine pn_thenr ?_ | refine pn_blkr ?_)
    exact ret1 hcx rfl (rv_cell (c' := cx) (n := 0) rfl rfl tyQ rfl) (q_eq (by rw [hes]) (Nat.le_refl _)) en

theorem r11_In {D : List Int} {L : List (List Int)} {ts : List (Int × Int)} {a b : Int} {n k : Nat} (h : TrS D L ts n k) {s : List Int} (hb : 0 < b) (hs : s.length ≤ n) : Fn Tryz.prog 49 [T.Tr D L ts a b k, T.l (cZi k) s] [] [] [] (T.c (.bool (decide (ptT D L ts s (n - 1) s.length ≤ (a : Rat) / (b : Rat))))) := by
  refine fn_of Tryz.func49 rfl (by show 2 ≤ 12; decide) fun cx hcx => ?_
  refine tri_sub (sl 0 rfl (sl 1 rfl sn)) en ?_
  have hn12 := h.twelve
  have hkk := h.hk
  have hlL := h.len
  have hn0 := h.pos
  refine tri_seq ?_
  refine tri_reg mixed hcx ?_ _ _
  refine bxs 10 rfl ?_
  refine asg rfl ?_
  refine ⟨by kernel_rfl, ?_⟩
  refine nx (sl 1 rfl (sl 2 rfl sn)) (el 10 rfl en) ?_
  refine tri_seq ?_
  refine tri_reg mixed hcx ?_ _ _
  refine ld rfl rfl tyTr rfl ?_
  refine mv rfl ?_
  refine ca rfl (h := r11_Part h (by omega)) (hn := ?_)
  refine fa rfl fTrR 3 ?_
  refine ld rfl rfl tyQ rfl ?_
  refine cb rfl (h := r3v_Cmp (by omega) (by omega)) (hn := ?_)
  refine cle rfl rfl rfl ?_
  refine asg rfl ?_
  refine ⟨by kernel_rfl, ?_⟩
  refine nx (sl 4 rfl sn) (el 10 rfl en) ?_
  refine tri_ret ?_
  repeat (first | refine pn_thenr ?_ | refine pn_blkr ?_)
  exact ret1 hcx rfl (rv_tmp rfl) (.of (by rw [decide_eq_decide.2 sgq_le])) en

theorem l11_fits_lt {D : List Int} {L : List (List Int)} {ts : List (Int × Int)} {a b : Int} {k : Nat} {s : List Int} (hLl : L.length ≤ 1048576) (hsl : s.length ≤ 1048576) {q : Bool} (h : s.length < L.length) : Fn Tryz.prog 47 [T.Tr D L ts a b k, T.l (cZi k) s, T.c (.bool q)] [] [] [] (T.c (.bool true)) := by
  refine fn_of Tryz.func47 rfl (by show 3 ≤ 27; decide) fun cx hcx => ?_
  refine tri_sub (sl 0 rfl (sl 1 rfl (sl 2 rfl sn))) en ?_
  refine tri_seq ?_
  refine tri_reg mixed hcx ?_ _ _
  refine bxs 10 rfl ?_
  refine asg rfl ?_
  refine ⟨by kernel_rfl, ?_⟩
  refine nx (sl 1 rfl (sl 2 rfl (sl 3 rfl sn))) (el 10 rfl en) ?_
  refine tri_seq ?_
  refine tri_reg mixed hcx ?_ _ _
  refine mv rfl ?_
  refine ln slZs rfl ?_
  refine fa rfl fTrG 0 ?_
  refine fa rfl fL 1 ?_
  refine ld rfl rfl tyZss rfl ?_
  refine ln slZss rfl ?_
  refine clt rfl rfl (decide_eq_true (by omega)) ?_
  refine mv rfl ?_
  refine j_off rfl rfl rfl rfl ?_
  refine j_off rfl rfl rfl rfl ?_
  refine j_off rfl rfl rfl rfl ?_
  refine j_ofu rfl rfl rfl ?_
  refine j_ofu rfl rfl rfl ?_
  refine j_ofu rfl rfl rfl ?_
  refine j_ofu rfl rfl rfl ?_
  refine j_ofu rfl rfl rfl ?_
  refine j_ofu rfl rfl rfl ?_
  refine j_ofu rfl rfl rfl ?_
  refine j_off rfl rfl rfl rfl ?_
  refine pk rfl rfl ?_
  refine asg rfl ?_
  refine ⟨by kernel_rfl, ?_⟩
  refine nx (sl 6 rfl sn) (el 10 rfl en) ?_
  refine tri_ret ?_
  repeat (first | refine pn_thenr ?_ | refine pn_blkr ?_)
  exact ret1 hcx rfl (rv_tmp rfl) (.refl _) en

theorem l11_fits_eq {D : List Int} {L : List (List Int)} {ts : List (Int × Int)} {a b : Int} {k : Nat} {s : List Int} (hLl : L.length ≤ 1048576) (hsl : s.length ≤ 1048576) (h : s.length = L.length) : Fn Tryz.prog 47 [T.Tr D L ts a b k, T.l (cZi k) s, T.c (.bool false)] [] [] [] (T.c (.bool true)) := by
  refine fn_of Tryz.func47 rfl (by show 3 ≤ 27; decide) fun cx hcx => ?_
  refine tri_sub (sl 0 rfl (sl 1 rfl (sl 2 rfl sn))) en ?_
  refine tri_seq ?_
  refine tri_reg mixed hcx ?_ _ _
  refine bxs 10 rfl ?_
  refine asg rfl ?_
  refine ⟨by kernel_rfl, ?_⟩
  refine nx (sl 1 rfl (sl 2 rfl (sl 3 rfl sn))) (el 10 rfl en) ?_
  refine tri_seq ?_
  refine tri_reg mixed hcx ?_ _ _
  refine mv rfl ?_
  refine ln slZs rfl ?_
  refine fa rfl fTrG 0 ?_
  refine fa rfl fL 1 ?_
  refine ld rfl rfl tyZss rfl ?_
  refine ln slZss rfl ?_
  refine clt rfl rfl (decide_eq_false (by omega)) ?_
  refine mv rfl ?_
  refine mv rfl ?_ (hg := gd1)
  refine nt rfl _ rfl ?_ (hg := gd1)
  refine mv rfl ?_ (hg := gd1)
  refine mv rfl ?_ (hg := gd1)
  refine ln slZs rfl ?_ (hg := gd1)
  refine fa rfl fTrG 0 ?_ (hg := gd1)
  refine fa rfl fL 1 ?_ (hg := gd1)
  refine ld rfl rfl tyZss rfl ?_ (hg := gd1)
  refine ln slZss rfl ?_ (hg := gd1)
  refine ceq rfl rfl (decide_eq_true (by omega)) ?_ (hg := gd1)
  refine pk rfl rfl ?_ (hg := gd1)
  refine pk rfl rfl ?_
  refine asg rfl ?_
  refine ⟨by kernel_rfl, ?_⟩
  refine nx (sl 6 rfl sn) (el 10 rfl en) ?_
  refine tri_ret ?_
  repeat (first | refine pn_thenr ?_ | refine pn_blkr ?_)
  exact ret1 hcx rfl (rv_tmp rfl) (.refl _) en

theorem l11_fits_gt {D : List Int} {L : List (List Int)} {ts : List (Int × Int)} {a b : Int} {k : Nat} {s : List Int} (hLl : L.length ≤ 1048576) (hsl : s.length ≤ 1048576) (h : L.length < s.length) : Fn Tryz.prog 47 [T.Tr D L ts a b k, T.l (cZi k) s, T.c (.bool false)] [] [] [] (T.c (.bool false)) := by
  refine fn_of Tryz.func47 rfl (by show 3 ≤ 27; decide) fun cx hcx => ?_
  refine tri_sub (sl 0 rfl (sl 1 rfl (sl 2 rfl sn))) en ?_
  refine tri_seq ?_
  refine tri_reg mixed hcx ?_ _ _
  refine bxs 10 rfl ?_
  refine asg rfl ?_
  refine ⟨by kernel_rfl, ?_⟩
  refine nx (sl 1 rfl (sl 2 rfl (sl 3 rfl sn))) (el 10 rfl en) ?_
  refine tri_seq ?_
  refine tri_reg mixed hcx ?_ _ _
  refine mv rfl ?_
  refine ln slZs rfl ?_
  refine fa rfl fTrG 0 ?_
  refine fa rfl fL 1 ?_
  refine ld rfl rfl tyZss rfl ?_
  refine ln slZss rfl ?_
  refine clt rfl rfl (decide_eq_false (by omega)) ?_
  refine mv rfl ?_
  refine mv rfl ?_ (hg := gd1)
  refine nt rfl _ rfl ?_ (hg := gd1)
  refine mv rfl ?_ (hg := gd1)
  refine mv rfl ?_ (hg := gd1)
  refine ln slZs rfl ?_ (hg := gd1)
  refine fa rfl fTrG 0 ?_ (hg := gd1)
  refine fa rfl fL 1 ?_ (hg := gd1)
  refine ld rfl rfl tyZss rfl ?_ (hg := gd1)
  refine ln slZss rfl ?_ (hg := gd1)
  refine ceq rfl rfl (decide_eq_false (by omega)) ?_ (hg := gd1)
  refine pk rfl rfl ?_ (hg := gd1)
  refine pk rfl rfl ?_
  refine asg rfl ?_
  refine ⟨by kernel_rfl, ?_⟩
  refine nx (sl 6 rfl sn) (el 10 rfl en) ?_
  refine tri_ret ?_
  repeat (first | refine pn_thenr ?_ | refine pn_blkr ?_)
  exact ret1 hcx rfl (rv_tmp rfl) (.refl _) en

theorem l11_fits_ge {D : List Int} {L : List (List Int)} {ts : List (Int × Int)} {a b : Int} {k : Nat} {s : List Int} (hLl : L.length ≤ 1048576) (hsl : s.length ≤ 1048576) (h : L.length ≤ s.length) : Fn Tryz.prog 47 [T.Tr D L ts a b k, T.l (cZi k) s, T.c (.bool true)] [] [] [] (T.c (.bool false)) := by
  refine fn_of Tryz.func47 rfl (by show 3 ≤ 27; decide) fun cx hcx => ?_
  refine tri_sub (sl 0 rfl (sl 1 rfl (sl 2 rfl sn))) en ?_
  refine tri_seq ?_
  refine tri_reg mixed hcx ?_ _ _
  refine bxs 10 rfl ?_
  refine asg rfl ?_
  refine ⟨by kernel_rfl, ?_⟩
  refine nx (sl 1 rfl (sl 2 rfl (sl 3 rfl sn))) (el 10 rfl en) ?_
  refine tri_seq ?_
  refine tri_reg mixed hcx ?_ _ _
  refine mv rfl ?_
  refine ln slZs rfl ?_
  refine fa rfl fTrG 0 ?_
  refine fa rfl fL 1 ?_
  refine ld rfl rfl tyZss rfl ?_
  refine ln slZss rfl ?_
  refine clt rfl rfl (decide_eq_false (by omega)) ?_
  refine mv rfl ?_
  refine mv rfl ?_ (hg := gd1)
  refine nt rfl _ rfl ?_ (hg := gd1)
  refine mv rfl ?_ (hg := gd1)
  refine j_off rfl rfl rfl rfl ?_
  refine j_off rfl rfl rfl rfl ?_
  refine j_off rfl rfl rfl rfl ?_
  refine j_off rfl rfl rfl rfl ?_
  refine j_off rfl rfl rfl rfl ?_
  refine j_off rfl rfl rfl rfl ?_
  refine j_off rfl rfl rfl rfl ?_
  refine pk rfl rfl ?_ (hg := gd1)
  refine pk rfl rfl ?_
  refine asg rfl ?_
  refine ⟨by kernel_rfl, ?_⟩
  refine nx (sl 6 rfl sn) (el 10 rfl en) ?_
  refine tri_ret ?_
  repeat (first | refine pn_thenr ?_ | refine pn_blkr ?_)
  exact ret1 hcx rfl (rv_tmp rfl) (.refl _) en

theorem l11_same {q : Rat} {k l : Nat} (hk : k ≤ 17592186044416) : Fn Tryz.prog 38 [T.Q q k, T.Q q l] [] [] [] (T.c (.bool true)) := by
  refine fn_of Tryz.func38 rfl (by show 2 ≤ 17; decide) fun cx hcx => ?_
  refine tri_sub (sl 0 rfl (sl 1 rfl sn)) en ?_
  refine tri_seq ?_
  refine tri_reg mixed hcx ?_ _ _
  refine bxs 10 rfl ?_
  refine bxs 11 rfl ?_
  refine asg rfl ?_
  refine ⟨by kernel_rfl, ?_⟩
  refine nx (sl 2 rfl (sl 3 rfl sn)) (el 10 rfl (el 11 rfl en)) ?_
  refine tri_seq ?_
  refine tri_reg mixed hcx ?_ _ _
  refine fa rfl fNum 0 ?_
  refine ld rfl rfl tyZ rfl ?_
  refine fa rfl fNum 0 ?_
  refine ld rfl rfl tyZ rfl ?_
  refine ca rfl (h := l11_whole (by omega)) (hn := ?_)
  refine mv rfl ?_
  refine fa rfl fDen 2 ?_ (hg := gd1)
  refine ld rfl rfl tyZ rfl ?_ (hg := gd1)
  refine fa rfl fDen 2 ?_ (hg := gd1)
  refine ld rfl rfl tyZ rfl ?_ (hg := gd1)
  refine ca rfl (h := l11_whole (by omega)) (hn := ?_) (hg := gd1)
  refine pk rfl rfl ?_
  refine asg rfl ?_
  refine ⟨by kernel_rfl, ?_⟩
  refine nx (sl 4 rfl sn) (el 10 rfl (el 11 rfl en)) ?_
  refine tri_ret ?_
  repeat (first | refine pn_thenr ?_ | refine pn_blkr ?_)
  exact ret1 hcx rfl (rv_tmp rfl) (.refl _) en

theorem l11_same0  : Fn Tryz.prog 38 [T.st [T.c (.bool false), T.c (.slice none 0 0), T.c (.bool false), T.c (.slice none 0 0)], T.st [T.c (.bool false), T.c (.slice none 0 0), T.c (.bool false), T.c (.slice none 0 0)]] [] [] [] (T.c (.bool true)) := by
  refine fn_of Tryz.func38 rfl (by show 2 ≤ 17; decide) fun cx hcx => ?_
  refine tri_sub (sl 0 rfl (sl 1 rfl sn)) en ?_
  refine tri_seq ?_
  refine tri_reg mixed hcx ?_ _ _
  refine bxs 10 rfl ?_
  refine bxs 11 rfl ?_
  refine asg rfl ?_
  refine ⟨by kernel_rfl, ?_⟩
  refine nx (sl 2 rfl (sl 3 rfl sn)) (el 10 rfl (el 11 rfl en)) ?_
  refine tri_seq ?_
  refine tri_reg mixed hcx ?_ _ _
  refine fa rfl fNum 0 ?_
  refine ld rfl rfl tyZ rfl ?_
  refine fa rfl fNum 0 ?_
  refine ld rfl rfl tyZ rfl ?_
  refine ca rfl (h := l11_whole0) (hn := ?_)
  refine mv rfl ?_
  refine fa rfl fDen 2 ?_ (hg := gd1)
  refine ld rfl rfl tyZ rfl ?_ (hg := gd1)
  refine fa rfl fDen 2 ?_ (hg := gd1)
  refine ld rfl rfl tyZ rfl ?_ (hg := gd1)
  refine ca rfl (h := l11_whole0) (hn := ?_) (hg := gd1)
  refine pk rfl rfl ?_
  refine asg rfl ?_
  refine ⟨by kernel_rfl, ?_⟩
  refine nx (sl 4 rfl sn) (el 10 rfl (el 11 rfl en)) ?_
  refine tri_ret ?_
  repeat (first | refine pn_thenr ?_ | refine pn_blkr ?_)
  exact ret1 hcx rfl (rv_tmp rfl) (.refl _) en
end Go.Proofs.YtffnfbhhjjbjbaaGreat.V
/- Search trees: every suffix has the part that its definition tells. -/
set_option linter.unusedVariables false
set_option linter.unusedSimpArgs false
set_option maxRecDepth 100000
namespace Go.Proofs.YtffnfbhhjjbjbaaGreat.V
open Go.RowKit Mt Nml
theorem t_parts1 {D : List Int} {L : List (List Int)} {ts : List (Int × Int)} {a b : Int} {k : Nat} (hk : k ≤ 1048576) (hLl : L.length ≤ 1048576) (hDl : D.length ≤ 1048576) (htl : ts.length ≤ 1048576) {s : List Int} (hV : ¬ TrV D L ts a b) : Fn Tryz.prog 7 [T.Tr D L ts a b k, T.l (cZi k) s] [] [] [] (T.c (.bool true)) := by
  refine fn_of Tryz.func7 rfl (by show 2 ≤ 145; decide) fun cx hcx => ?_
  refine tri_sub (sl 0 rfl (sl 1 rfl sn)) en ?_
  refine tri_seq ?_
  refine tri_reg mixed hcx ?_ _ _
  refine bxs 10 rfl ?_
  refine asg rfl ?_
  refine ⟨by kernel_rfl, ?_⟩
  refine nx (sl 1 rfl (sl 2 rfl sn)) (el 10 rfl en) ?_
  refine tri_seq ?_
  refine tri_reg mixed hcx ?_ _ _
  refine ld rfl rfl tyTr rfl ?_
  refine mv rfl ?_
  refine ca rfl (h := t_Part_e hLl (by decide) (t_fits_bad hk hLl hDl htl hV)) (hn := ?_)
  refine mv rfl ?_
  refine ex rfl rfl ?_
  refine ex rfl rfl ?_
  refine nw 116 zeQ ?_
  refine st rfl rfl rfl tyQ rfl ?_
  refine asg rfl ?_
  refine ⟨by kernel_rfl, ?_⟩
  refine nx (sl 1 rfl (sl 2 rfl (sl 5 rfl (sl 6 rfl sn)))) (el 10 rfl (el 116 rfl en)) ?_
  refine tri_seq ?_
  refine tri_reg mixed hcx ?_ _ _
  refine ld rfl rfl tyTr rfl ?_
  refine mv rfl ?_
  refine ca rfl (h := t_Centre_e hLl (by decide) (t_fits_bad hk hLl hDl htl hV)) (hn := ?_)
  refine mv rfl ?_
  refine ex rfl rfl ?_
  refine ex rfl rfl ?_
  refine nw 216 zeQ ?_
  refine st rfl rfl rfl tyQ rfl ?_
  refine asg rfl ?_
  refine ⟨by kernel_rfl, ?_⟩
  refine nx (sl 1 rfl (sl 2 rfl (sl 5 rfl (sl 6 rfl (sl 7 rfl (sl 8 rfl sn)))))) (el 10 rfl (el 116 rfl (el 216 rfl en))) ?_
  refine tri_seq ?_
  refine tri_reg mixed hcx ?_ _ _
  refine ld rfl rfl tyTr rfl ?_
  refine mv rfl ?_
  refine ca rfl (h := t_In_e hLl (by decide) (t_fits_bad hk hLl hDl htl hV)) (hn := ?_)
  refine mv rfl ?_
  refine ex rfl rfl ?_
  refine ex rfl rfl ?_
  refine asg rfl ?_
  refine asg rfl ?_
  refine ⟨by kernel_rfl, ?_⟩
  refine nx (sl 1 rfl (sl 2 rfl (sl 5 rfl (sl 6 rfl (sl 7 rfl (sl 8 rfl (sl 9 rfl (sl 10 rfl sn)))))))) (el 10 rfl (el 116 rfl (el 216 rfl en))) ?_
  refine tri_seq ?_
  refine tri_seq ?_
  refine tri_reg mixed hcx ?_ _ _
  refine ld rfl rfl tyTr rfl ?_
  refine ca rfl (h := r11_Valid_no hk hLl hDl htl hV) (hn := ?_)
  refine nt rfl _ rfl ?_
  refine ⟨by kernel_rfl, ?_⟩
  refine nx (sl 1 rfl (sl 2 rfl (sl 5 rfl (sl 6 rfl (sl 7 rfl (sl 8 rfl (sl 9 rfl (sl 10 rfl (sl 31 rfl sn))))))))) (el 10 rfl (el 116 rfl (el 216 rfl en))) ?_
  refine tri_true rfl rfl ?_
  refine tri_seq ?_
  refine tri_reg mixed hcx ?_ _ _
  refine ld rfl rfl tyTr rfl ?_
  refine ca rfl (h := t_Valid_no hk hLl hDl htl hV) (hn := ?_)
  refine ceq rfl rfl rfl ?_
  refine mv rfl ?_
  refine mv rfl ?_ (hg := gd1)
  refine ceq rfl rfl rfl ?_ (hg := gd1)
  refine pk rfl rfl ?_
  refine mv rfl ?_
  refine mv rfl ?_ (hg := gd1)
  refine ceq rfl rfl rfl ?_ (hg := gd1)
  refine pk rfl rfl ?_
  refine mv rfl ?_
  refine mv rfl ?_ (hg := gd1)
  refine ceq rfl rfl rfl ?_ (hg := gd1)
  refine pk rfl rfl ?_
  refine mv rfl ?_
  refine ld rfl rfl tyQ rfl ?_ (hg := gd1)
  refine bu stQ rfl ?_ (hg := gd1)
  refine ca rfl (h := l11_same0) (hn := ?_) (hg := gd1)
  refine pk rfl rfl ?_
  refine mv rfl ?_
  refine ld rfl rfl tyQ rfl ?_ (hg := gd1)
  refine bu stQ rfl ?_ (hg := gd1)
  refine ca rfl (h := l11_same0) (hn := ?_) (hg := gd1)
  refine pk rfl rfl ?_
  refine mv rfl ?_
  refine mv rfl ?_ (hg := gd1)
  refine nt rfl _ rfl ?_ (hg := gd1)
  refine pk rfl rfl ?_
  refine mv rfl ?_
  refine ca rfl (h := l11_awake) (hn := ?_) (hg := gd1)
  refine pk rfl rfl ?_
  refine asg rfl ?_
  refine ⟨by kernel_rfl, ?_⟩
  refine nx (sl 4 rfl sn) (el 10 rfl (el 116 rfl (el 216 rfl en))) ?_
  refine tri_ret ?_
  repeat (first | refine pn_thenr ?_ | refine pn_blkr ?_)
  exact ret1 hcx rfl (rv_tmp rfl) (.refl _) en

theorem t_parts2 {D : List Int} {L : List (List Int)} {ts : List (Int × Int)} {a b : Int} {n k : Nat} (h : TrS D L ts n k) {s : List Int} (hb : 0 < b) (ha : 0 ≤ a) (hDl : D.length ≤ 1048576) (htl : ts.length ≤ 1048576) (hsl : s.length ≤ 1048576) (hs : n < s.length) : Fn Tryz.prog 7 [T.Tr D L ts a b k, T.l (cZi k) s] [] [] [] (T.c (.bool true)) := by
  refine fn_of Tryz.func7 rfl (by show 2 ≤ 145; decide) fun cx hcx => ?_
  refine tri_sub (sl 0 rfl (sl 1 rfl sn)) en ?_
  have hn12 := h.twelve
  have hkk := h.hk
  have hlL := h.len
  have hn0 := h.pos
  have hfc := t_fits_no (s := s) h hb ha (m := L.length - 1) (by omega) hsl
  rw [show ((L.length - 1 : Nat) : Int) = (L.length : Int) - 1 by omega] at hfc
  refine tri_seq ?_
  refine tri_reg mixed hcx ?_ _ _
  refine bxs 10 rfl ?_
  refine asg rfl ?_
  refine ⟨by kernel_rfl, ?_⟩
  refine nx (sl 1 rfl (sl 2 rfl sn)) (el 10 rfl en) ?_
  refine tri_seq ?_
  refine tri_reg mixed hcx ?_ _ _
  refine ld rfl rfl tyTr rfl ?_
  refine mv rfl ?_
  refine ca rfl (h := t_Part_e (by omega) (by decide) (t_fits_no h hb ha (m := L.length) (by omega) hsl)) (hn := ?_)
  refine mv rfl ?_
  refine ex rfl rfl ?_
  refine ex rfl rfl ?_
  refine nw 116 zeQ ?_
  refine st rfl rfl rfl tyQ rfl ?_
  refine asg rfl ?_
  refine ⟨by kernel_rfl, ?_⟩
  refine nx (sl 1 rfl (sl 2 rfl (sl 5 rfl (sl 6 rfl sn)))) (el 10 rfl (el 116 rfl en)) ?_
  refine tri_seq ?_
  refine tri_reg mixed hcx ?_ _ _
  refine ld rfl rfl tyTr rfl ?_
  refine mv rfl ?_
  refine ca rfl (h := t_Centre_e (by omega) (by decide) hfc) (hn := ?_)
  refine mv rfl ?_
  refine ex rfl rfl ?_
  refine ex rfl rfl ?_
  refine nw 216 zeQ ?_
  refine st rfl rfl rfl tyQ rfl ?_
  refine asg rfl ?_
  refine ⟨by kernel_rfl, ?_⟩
  refine nx (sl 1 rfl (sl 2 rfl (sl 5 rfl (sl 6 rfl (sl 7 rfl (sl 8 rfl sn)))))) (el 10 rfl (el 116 rfl (el 216 rfl en))) ?_
  refine tri_seq ?_
  refine tri_reg mixed hcx ?_ _ _
  refine ld rfl rfl tyTr rfl ?_
  refine mv rfl ?_
  refine ca rfl (h := t_In_e (by omega) (by decide) (t_fits_no h hb ha (m := L.length) (by omega) hsl)) (hn := ?_)
  refine mv rfl ?_
  refine ex rfl rfl ?_
  refine ex rfl rfl ?_
  refine asg rfl ?_
  refine asg rfl ?_
  refine ⟨by kernel_rfl, ?_⟩
  refine nx (sl 1 rfl (sl 2 rfl (sl 5 rfl (sl 6 rfl (sl 7 rfl (sl 8 rfl (sl 9 rfl (sl 10 rfl sn)))))))) (el 10 rfl (el 116 rfl (el 216 rfl en))) ?_
  refine tri_seq ?_
  refine tri_seq ?_
  refine tri_reg mixed hcx ?_ _ _
  refine ld rfl rfl tyTr rfl ?_
  refine ca rfl (h := r11_Valid7 h.hk (by omega) hDl htl h.good (by omega) (by rw [hlL]; exact h.tl) h.tp hb ha) (hn := ?_)
  refine nt rfl _ rfl ?_
  refine ⟨by kernel_rfl, ?_⟩
  refine nx (sl 1 rfl (sl 2 rfl (sl 5 rfl (sl 6 rfl (sl 7 rfl (sl 8 rfl (sl 9 rfl (sl 10 rfl (sl 31 rfl sn))))))))) (el 10 rfl (el 116 rfl (el 216 rfl en))) ?_
  refine tri_false rfl rfl ?_
  refine tri_skip ?_
  refine nx (sl 1 rfl (sl 2 rfl (sl 5 rfl (sl 6 rfl (sl 7 rfl (sl 8 rfl (sl 9 rfl (sl 10 rfl sn)))))))) (el 10 rfl (el 116 rfl (el 216 rfl en))) ?_
  refine tri_seq ?_
  refine tri_seq ?_
  refine tri_reg mixed hcx ?_ _ _
  refine ld rfl rfl tyTr rfl ?_
  refine ca rfl (h := t_Valid h hb ha) (hn := ?_)
  refine cne rfl rfl (decide_eq_false (by omega)) ?_
  refine ⟨by kernel_rfl, ?_⟩
  refine nx (sl 1 rfl (sl 2 rfl (sl 5 rfl (sl 6 rfl (sl 7 rfl (sl 8 rfl (sl 9 rfl (sl 10 rfl (sl 66 rfl sn))))))))) (el 10 rfl (el 116 rfl (el 216 rfl en))) ?_
  refine tri_false rfl rfl ?_
  refine tri_skip ?_
  refine nx (sl 1 rfl (sl 2 rfl (sl 5 rfl (sl 6 rfl (sl 7 rfl (sl 8 rfl (sl 9 rfl (sl 10 rfl sn)))))))) (el 10 rfl (el 116 rfl (el 216 rfl en))) ?_
  refine tri_seq ?_
  refine tri_seq ?_
  refine tri_reg mixed hcx ?_ _ _
  refine ld rfl rfl tyTr rfl ?_
  refine mv rfl ?_
  refine ca rfl (h := l11_fits_gt (by omega) hsl (by omega)) (hn := ?_)
  refine nt rfl _ rfl ?_
  refine ⟨by kernel_rfl, ?_⟩
  refine nx (sl 1 rfl (sl 2 rfl (sl 5 rfl (sl 6 rfl (sl 7 rfl (sl 8 rfl (sl 9 rfl (sl 10 rfl (sl 70 rfl sn))))))))) (el 10 rfl (el 116 rfl (el 216 rfl en))) ?_
  refine tri_true rfl rfl ?_
  refine tri_seq ?_
  refine tri_reg mixed hcx ?_ _ _
  refine mv rfl ?_
  refine ceq rfl rfl rfl ?_
  refine mv rfl ?_
  refine mv rfl ?_ (hg := gd1)
  refine ceq rfl rfl rfl ?_ (hg := gd1)
  refine pk rfl rfl ?_
  refine mv rfl ?_
  refine mv rfl ?_ (hg := gd1)
  refine ceq rfl rfl rfl ?_ (hg := gd1)
  refine pk rfl rfl ?_
  refine mv rfl ?_
  refine ld rfl rfl tyQ rfl ?_ (hg := gd1)
  refine bu stQ rfl ?_ (hg := gd1)
  refine ca rfl (h := l11_same0) (hn := ?_) (hg := gd1)
  refine pk rfl rfl ?_
  refine mv rfl ?_
  refine ld rfl rfl tyQ rfl ?_ (hg := gd1)
  refine bu stQ rfl ?_ (hg := gd1)
  refine ca rfl (h := l11_same0) (hn := ?_) (hg := gd1)
  refine pk rfl rfl ?_
  refine mv rfl ?_
  refine mv rfl ?_ (hg := gd1)
  refine nt rfl _ rfl ?_ (hg := gd1)
  refine pk rfl rfl ?_
  refine mv rfl ?_
  refine ca rfl (h := l11_awake) (hn := ?_) (hg := gd1)
  refine pk rfl rfl ?_
  refine asg rfl ?_
  refine ⟨by kernel_rfl, ?_⟩
  refine nx (sl 4 rfl sn) (el 10 rfl (el 116 rfl (el 216 rfl en))) ?_
  refine tri_ret ?_
  repeat (first | refine pn_thenr ?_ | refine pn_blkr ?_)
  exact ret1 hcx rfl (rv_tmp rfl) (.refl _) en

theorem t_parts3 {D : List Int} {L : List (List Int)} {ts : List (Int × Int)} {a b : Int} {n k : Nat} (h : TrS D L ts n k) {s : List Int} (hb : 0 < b) (ha : 0 ≤ a) (hDl : D.length ≤ 1048576) (htl : ts.length ≤ 1048576) (hsl : s.length ≤ 1048576) (hs : s.length = n) : Fn Tryz.prog 7 [T.Tr D L ts a b k, T.l (cZi k) s] [] [] [] (T.c (.bool true)) := by
  refine fn_of Tryz.func7 rfl (by show 2 ≤ 145; decide) fun cx hcx => ?_
  refine tri_sub (sl 0 rfl (sl 1 rfl sn)) en ?_
  have hn12 := h.twelve
  have hkk := h.hk
  have hlL := h.len
  have hn0 := h.pos
  have hfc := t_fits_no (s := s) h hb ha (m := L.length - 1) (by omega) hsl
  rw [show ((L.length - 1 : Nat) : Int) = (L.length : Int) - 1 by omega] at hfc
  refine tri_seq ?_
  refine tri_reg mixed hcx ?_ _ _
  refine bxs 10 rfl ?_
  refine asg rfl ?_
  refine ⟨by kernel_rfl, ?_⟩
  refine nx (sl 1 rfl (sl 2 rfl sn)) (el 10 rfl en) ?_
  refine tri_seq ?_
  refine tri_reg mixed hcx ?_ _ _
  refine ld rfl rfl tyTr rfl ?_
  refine mv rfl ?_
  refine ca rfl (h := t_Part h hb ha (by omega)) (hn := ?_)
  refine mv rfl ?_
  refine ex rfl rfl ?_
  refine ex rfl rfl ?_
  refine nw 116 zeQ ?_
  refine st rfl rfl rfl tyQ rfl ?_
  refine asg rfl ?_
  refine ⟨by kernel_rfl, ?_⟩
  refine nx (sl 1 rfl (sl 2 rfl (sl 5 rfl (sl 6 rfl sn)))) (el 10 rfl (el 116 rfl en)) ?_
  refine tri_seq ?_
  refine tri_reg mixed hcx ?_ _ _
  refine ld rfl rfl tyTr rfl ?_
  refine mv rfl ?_
  refine ca rfl (h := t_Centre_e (by omega) (by decide) hfc) (hn := ?_)
  refine mv rfl ?_
  refine ex rfl rfl ?_
  refine ex rfl rfl ?_
  refine nw 216 zeQ ?_
  refine st rfl rfl rfl tyQ rfl ?_
  refine asg rfl ?_
  refine ⟨by kernel_rfl, ?_⟩
  refine nx (sl 1 rfl (sl 2 rfl (sl 5 rfl (sl 6 rfl (sl 7 rfl (sl 8 rfl sn)))))) (el 10 rfl (el 116 rfl (el 216 rfl en))) ?_
  refine tri_seq ?_
  refine tri_reg mixed hcx ?_ _ _
  refine ld rfl rfl tyTr rfl ?_
  refine mv rfl ?_
  refine ca rfl (h := t_In h hb ha (by omega)) (hn := ?_)
  refine mv rfl ?_
  refine ex rfl rfl ?_
  refine ex rfl rfl ?_
  refine asg rfl ?_
  refine asg rfl ?_
  refine ⟨by kernel_rfl, ?_⟩
  refine nx (sl 1 rfl (sl 2 rfl (sl 5 rfl (sl 6 rfl (sl 7 rfl (sl 8 rfl (sl 9 rfl (sl 10 rfl sn)))))))) (el 10 rfl (el 116 rfl (el 216 rfl en))) ?_
  refine tri_seq ?_
  refine tri_seq ?_
  refine tri_reg mixed hcx ?_ _ _
  refine ld rfl rfl tyTr rfl ?_
  refine ca rfl (h := r11_Valid7 h.hk (by omega) hDl htl h.good (by omega) (by rw [hlL]; exact h.tl) h.tp hb ha) (hn := ?_)
  refine nt rfl _ rfl ?_
  refine ⟨by kernel_rfl, ?_⟩
  refine nx (sl 1 rfl (sl 2 rfl (sl 5 rfl (sl 6 rfl (sl 7 rfl (sl 8 rfl (sl 9 rfl (sl 10 rfl (sl 31 rfl sn))))))))) (el 10 rfl (el 116 rfl (el 216 rfl en))) ?_
  refine tri_false rfl rfl ?_
  refine tri_skip ?_
  refine nx (sl 1 rfl (sl 2 rfl (sl 5 rfl (sl 6 rfl (sl 7 rfl (sl 8 rfl (sl 9 rfl (sl 10 rfl sn)))))))) (el 10 rfl (el 116 rfl (el 216 rfl en))) ?_
  refine tri_seq ?_
  refine tri_seq ?_
  refine tri_reg mixed hcx ?_ _ _
  refine ld rfl rfl tyTr rfl ?_
  refine ca rfl (h := t_Valid h hb ha) (hn := ?_)
  refine cne rfl rfl (decide_eq_false (by omega)) ?_
  refine ⟨by kernel_rfl, ?_⟩
  refine nx (sl 1 rfl (sl 2 rfl (sl 5 rfl (sl 6 rfl (sl 7 rfl (sl 8 rfl (sl 9 rfl (sl 10 rfl (sl 66 rfl sn))))))))) (el 10 rfl (el 116 rfl (el 216 rfl en))) ?_
  refine tri_false rfl rfl ?_
  refine tri_skip ?_
  refine nx (sl 1 rfl (sl 2 rfl (sl 5 rfl (sl 6 rfl (sl 7 rfl (sl 8 rfl (sl 9 rfl (sl 10 rfl sn)))))))) (el 10 rfl (el 116 rfl (el 216 rfl en))) ?_
  refine tri_seq ?_
  refine tri_seq ?_
  refine tri_reg mixed hcx ?_ _ _
  refine ld rfl rfl tyTr rfl ?_
  refine mv rfl ?_
  refine ca rfl (h := l11_fits_eq (by omega) hsl (by omega)) (hn := ?_)
  refine nt rfl _ rfl ?_
  refine ⟨by kernel_rfl, ?_⟩
  refine nx (sl 1 rfl (sl 2 rfl (sl 5 rfl (sl 6 rfl (sl 7 rfl (sl 8 rfl (sl 9 rfl (sl 10 rfl (sl 70 rfl sn))))))))) (el 10 rfl (el 116 rfl (el 216 rfl en))) ?_
  refine tri_false rfl rfl ?_
  refine tri_skip ?_
  refine nx (sl 1 rfl (sl 2 rfl (sl 5 rfl (sl 6 rfl (sl 7 rfl (sl 8 rfl (sl 9 rfl (sl 10 rfl sn)))))))) (el 10 rfl (el 116 rfl (el 216 rfl en))) ?_
  refine tri_seq ?_
  refine tri_seq ?_
  refine tri_reg mixed hcx ?_ _ _
  refine mv rfl ?_
  refine cne rfl rfl (decide_eq_false (by omega)) ?_
  refine mv rfl ?_
  refine mv rfl ?_ (hg := gd1)
  refine cne rfl rfl (decide_eq_false (by omega)) ?_ (hg := gd1)
  refine pk rfl rfl ?_
  refine mv rfl ?_
  refine ld rfl rfl tyQ rfl ?_ (hg := gd1)
  refine ld rfl rfl tyTr rfl ?_ (hg := gd1)
  refine mv rfl ?_ (hg := gd1)
  refine ca rfl (h := r11_Part h (by omega)) (hn := ?_) (hg := gd1)
  refine ca rfl (h := l11_same (by omega)) (hn := ?_) (hg := gd1)
  refine nt rfl _ rfl ?_ (hg := gd1)
  refine pk rfl rfl ?_
  refine mv rfl ?_
  refine mv rfl ?_ (hg := gd1)
  refine ld rfl rfl tyTr rfl ?_ (hg := gd1)
  refine mv rfl ?_ (hg := gd1)
  refine ca rfl (h := r11_In h hb (by omega)) (hn := ?_) (hg := gd1)
  refine neb (q := false) rfl rfl (by simp) ?_ (hg := gd1)
  refine pk rfl rfl ?_
  refine ⟨by kernel_rfl, ?_⟩
  refine nx (sl 1 rfl (sl 2 rfl (sl 7 rfl (sl 8 rfl (sl 118 rfl sn))))) (el 10 rfl (el 116 rfl (el 216 rfl en))) ?_
  refine tri_false rfl rfl ?_
  refine tri_skip ?_
  refine nx (sl 1 rfl (sl 2 rfl (sl 7 rfl (sl 8 rfl sn)))) (el 10 rfl (el 116 rfl (el 216 rfl en))) ?_
  refine tri_seq ?_
  refine tri_seq ?_
  refine tri_reg mixed hcx ?_ _ _
  refine ld rfl rfl tyTr rfl ?_
  refine mv rfl ?_
  refine ca rfl (h := l11_fits_ge (by omega) hsl (by omega)) (hn := ?_)
  refine nt rfl _ rfl ?_
  refine ⟨by kernel_rfl, ?_⟩
  refine nx (sl 1 rfl (sl 2 rfl (sl 7 rfl (sl 8 rfl (sl 122 rfl sn))))) (el 10 rfl (el 116 rfl (el 216 rfl en))) ?_
  refine tri_true rfl rfl ?_
  refine tri_seq ?_
  refine tri_reg mixed hcx ?_ _ _
  refine mv rfl ?_
  refine ceq rfl rfl rfl ?_
  refine mv rfl ?_
  refine ld rfl rfl tyQ rfl ?_ (hg := gd1)
  refine bu stQ rfl ?_ (hg := gd1)
  refine ca rfl (h := l11_same0) (hn := ?_) (hg := gd1)
  refine pk rfl rfl ?_
  refine mv rfl ?_
  refine ca rfl (h := l11_awake) (hn := ?_) (hg := gd1)
  refine pk rfl rfl ?_
  refine asg rfl ?_
  refine ⟨by kernel_rfl, ?_⟩
  refine nx (sl 4 rfl sn) (el 10 rfl (el 116 rfl (el 216 rfl en))) ?_
  refine tri_ret ?_
  repeat (first | refine pn_thenr ?_ | refine pn_blkr ?_)
  exact ret1 hcx rfl (rv_tmp rfl) (.refl _) en

theorem t_parts4 {D : List Int} {L : List (List Int)} {ts : List (Int × Int)} {a b : Int} {n k : Nat} (h : TrS D L ts n k) {s : List Int} (hb : 0 < b) (ha : 0 ≤ a) (hDl : D.length ≤ 1048576) (htl : ts.length ≤ 1048576) (hsl : s.length ≤ 1048576) (hs : s.length < n) : Fn Tryz.prog 7 [T.Tr D L ts a b k, T.l (cZi k) s] [] [] [] (T.c (.bool true)) := by
  refine fn_of Tryz.func7 rfl (by show 2 ≤ 145; decide) fun cx hcx => ?_
  refine tri_sub (sl 0 rfl (sl 1 rfl sn)) en ?_
  have hn12 := h.twelve
  have hkk := h.hk
  have hlL := h.len
  have hn0 := h.pos
  refine tri_seq ?_
  refine tri_reg mixed hcx ?_ _ _
  refine bxs 10 rfl ?_
  refine asg rfl ?_
  refine ⟨by kernel_rfl, ?_⟩
  refine nx (sl 1 rfl (sl 2 rfl sn)) (el 10 rfl en) ?_
  refine tri_seq ?_
  refine tri_reg mixed hcx ?_ _ _
  refine ld rfl rfl tyTr rfl ?_
  refine mv rfl ?_
  refine ca rfl (h := t_Part h hb ha (by omega)) (hn := ?_)
  refine mv rfl ?_
  refine ex rfl rfl ?_
  refine ex rfl rfl ?_
  refine nw 116 zeQ ?_
  refine st rfl rfl rfl tyQ rfl ?_
  refine asg rfl ?_
  refine ⟨by kernel_rfl, ?_⟩
  refine nx (sl 1 rfl (sl 2 rfl (sl 5 rfl (sl 6 rfl sn)))) (el 10 rfl (el 116 rfl en)) ?_
  refine tri_seq ?_
  refine tri_reg mixed hcx ?_ _ _
  refine ld rfl rfl tyTr rfl ?_
  refine mv rfl ?_
  refine ca rfl (h := t_Centre h hb ha (by omega)) (hn := ?_)
  refine mv rfl ?_
  refine ex rfl rfl ?_
  refine ex rfl rfl ?_
  refine nw 216 zeQ ?_
  refine st rfl rfl rfl tyQ rfl ?_
  refine asg rfl ?_
  refine ⟨by kernel_rfl, ?_⟩
  refine nx (sl 1 rfl (sl 2 rfl (sl 5 rfl (sl 6 rfl (sl 7 rfl (sl 8 rfl sn)))))) (el 10 rfl (el 116 rfl (el 216 rfl en))) ?_
  refine tri_seq ?_
  refine tri_reg mixed hcx ?_ _ _
  refine ld rfl rfl tyTr rfl ?_
  refine mv rfl ?_
  refine ca rfl (h := t_In h hb ha (by omega)) (hn := ?_)
  refine mv rfl ?_
  refine ex rfl rfl ?_
  refine ex rfl rfl ?_
  refine asg rfl ?_
  refine asg rfl ?_
  refine ⟨by kernel_rfl, ?_⟩
  refine nx (sl 1 rfl (sl 2 rfl (sl 5 rfl (sl 6 rfl (sl 7 rfl (sl 8 rfl (sl 9 rfl (sl 10 rfl sn)))))))) (el 10 rfl (el 116 rfl (el 216 rfl en))) ?_
  refine tri_seq ?_
  refine tri_seq ?_
  refine tri_reg mixed hcx ?_ _ _
  refine ld rfl rfl tyTr rfl ?_
  refine ca rfl (h := r11_Valid7 h.hk (by omega) hDl htl h.good (by omega) (by rw [hlL]; exact h.tl) h.tp hb ha) (hn := ?_)
  refine nt rfl _ rfl ?_
  refine ⟨by kernel_rfl, ?_⟩
  refine nx (sl 1 rfl (sl 2 rfl (sl 5 rfl (sl 6 rfl (sl 7 rfl (sl 8 rfl (sl 9 rfl (sl 10 rfl (sl 31 rfl sn))))))))) (el 10 rfl (el 116 rfl (el 216 rfl en))) ?_
  refine tri_false rfl rfl ?_
  refine tri_skip ?_
  refine nx (sl 1 rfl (sl 2 rfl (sl 5 rfl (sl 6 rfl (sl 7 rfl (sl 8 rfl (sl 9 rfl (sl 10 rfl sn)))))))) (el 10 rfl (el 116 rfl (el 216 rfl en))) ?_
  refine tri_seq ?_
  refine tri_seq ?_
  refine tri_reg mixed hcx ?_ _ _
  refine ld rfl rfl tyTr rfl ?_
  refine ca rfl (h := t_Valid h hb ha) (hn := ?_)
  refine cne rfl rfl (decide_eq_false (by omega)) ?_
  refine ⟨by kernel_rfl, ?_⟩
  refine nx (sl 1 rfl (sl 2 rfl (sl 5 rfl (sl 6 rfl (sl 7 rfl (sl 8 rfl (sl 9 rfl (sl 10 rfl (sl 66 rfl sn))))))))) (el 10 rfl (el 116 rfl (el 216 rfl en))) ?_
  refine tri_false rfl rfl ?_
  refine tri_skip ?_
  refine nx (sl 1 rfl (sl 2 rfl (sl 5 rfl (sl 6 rfl (sl 7 rfl (sl 8 rfl (sl 9 rfl (sl 10 rfl sn)))))))) (el 10 rfl (el 116 rfl (el 216 rfl en))) ?_
  refine tri_seq ?_
  refine tri_seq ?_
  refine tri_reg mixed hcx ?_ _ _
  refine ld rfl rfl tyTr rfl ?_
  refine mv rfl ?_
  refine ca rfl (h := l11_fits_lt (by omega) hsl (by omega)) (hn := ?_)
  refine nt rfl _ rfl ?_
  refine ⟨by kernel_rfl, ?_⟩
  refine nx (sl 1 rfl (sl 2 rfl (sl 5 rfl (sl 6 rfl (sl 7 rfl (sl 8 rfl (sl 9 rfl (sl 10 rfl (sl 70 rfl sn))))))))) (el 10 rfl (el 116 rfl (el 216 rfl en))) ?_
  refine tri_false rfl rfl ?_
  refine tri_skip ?_
  refine nx (sl 1 rfl (sl 2 rfl (sl 5 rfl (sl 6 rfl (sl 7 rfl (sl 8 rfl (sl 9 rfl (sl 10 rfl sn)))))))) (el 10 rfl (el 116 rfl (el 216 rfl en))) ?_
  refine tri_seq ?_
  refine tri_seq ?_
  refine tri_reg mixed hcx ?_ _ _
  refine mv rfl ?_
  refine cne rfl rfl (decide_eq_false (by omega)) ?_
  refine mv rfl ?_
  refine mv rfl ?_ (hg := gd1)
  refine cne rfl rfl (decide_eq_false (by omega)) ?_ (hg := gd1)
  refine pk rfl rfl ?_
  refine mv rfl ?_
  refine ld rfl rfl tyQ rfl ?_ (hg := gd1)
  refine ld rfl rfl tyTr rfl ?_ (hg := gd1)
  refine mv rfl ?_ (hg := gd1)
  refine ca rfl (h := r11_Part h (by omega)) (hn := ?_) (hg := gd1)
  refine ca rfl (h := l11_same (by omega)) (hn := ?_) (hg := gd1)
  refine nt rfl _ rfl ?_ (hg := gd1)
  refine pk rfl rfl ?_
  refine mv rfl ?_
  refine mv rfl ?_ (hg := gd1)
  refine ld rfl rfl tyTr rfl ?_ (hg := gd1)
  refine mv rfl ?_ (hg := gd1)
  refine ca rfl (h := r11_In h hb (by omega)) (hn := ?_) (hg := gd1)
  refine neb (q := false) rfl rfl (by simp) ?_ (hg := gd1)
  refine pk rfl rfl ?_
  refine ⟨by kernel_rfl, ?_⟩
  refine nx (sl 1 rfl (sl 2 rfl (sl 7 rfl (sl 8 rfl (sl 118 rfl sn))))) (el 10 rfl (el 116 rfl (el 216 rfl en))) ?_
  refine tri_false rfl rfl ?_
  refine tri_skip ?_
  refine nx (sl 1 rfl (sl 2 rfl (sl 7 rfl (sl 8 rfl sn)))) (el 10 rfl (el 116 rfl (el 216 rfl en))) ?_
  refine tri_seq ?_
  refine tri_seq ?_
  refine tri_reg mixed hcx ?_ _ _
  refine ld rfl rfl tyTr rfl ?_
  refine mv rfl ?_
  refine ca rfl (h := l11_fits_lt (by omega) hsl (by omega)) (hn := ?_)
  refine nt rfl _ rfl ?_
  refine ⟨by kernel_rfl, ?_⟩
  refine nx (sl 1 rfl (sl 2 rfl (sl 7 rfl (sl 8 rfl (sl 122 rfl sn))))) (el 10 rfl (el 116 rfl (el 216 rfl en))) ?_
  refine tri_false rfl rfl ?_
  refine tri_skip ?_
  refine nx (sl 1 rfl (sl 2 rfl (sl 7 rfl (sl 8 rfl sn)))) (el 10 rfl (el 116 rfl (el 216 rfl en))) ?_
  refine tri_seq ?_
  refine tri_reg mixed hcx ?_ _ _
  refine mv rfl ?_
  refine ceq rfl rfl rfl ?_
  refine mv rfl ?_
  refine ld rfl rfl tyQ rfl ?_ (hg := gd1)
  refine ld rfl rfl tyTr rfl ?_ (hg := gd1)
  refine mv rfl ?_ (hg := gd1)
  refine ca rfl (h := r11_Centre h (by omega)) (hn := ?_) (hg := gd1)
  refine ca rfl (h := l11_same (by omega)) (hn := ?_) (hg := gd1)
  refine pk rfl rfl ?_
  refine mv rfl ?_
  refine ca rfl (h := l11_awake) (hn := ?_) (hg := gd1)
  refine pk rfl rfl ?_
  refine asg rfl ?_
  refine ⟨by kernel_rfl, ?_⟩
  refine nx (sl 4 rfl sn) (el 10 rfl (el 116 rfl (el 216 rfl en))) ?_
  refine tri_ret ?_
  repeat (first | refine pn_thenr ?_ | refine pn_blkr ?_)
  exact ret1 hcx rfl (rv_tmp rfl) (.refl _) en

theorem cells_qz2 {k : Nat} {u : World} : ∀ {l : List (Int × Int)} {cs : List Value}, Cells B0 u (l.map (cQi k).X) cs → ∀ q ∈ l, zl q.1 ≤ k ∧ zl q.2 ≤ k
  | [], _, _, q, h => by cases h
  | a :: r, cs, ⟨v, rest, _, ⟨ys, _, v1, r1, _, h1, _, v2, r2, _, h3, _⟩, _, h2⟩, q, h => by
    rcases List.mem_cons.1 h with rfl | h
    · exact ⟨zi_zl h1, zi_zl h3⟩
    · exact cells_qz2 h2 q h
theorem l_qz2 {k : Nat} {β : Env} {u : World} {l : List (Int × Int)} {v : Value} (h : (T.l (cQi k) l).rep β u v) : ∀ q ∈ l, zl q.1 ≤ k ∧ zl q.2 ≤ k := fun q hq => by
  obtain ⟨A, n, c, _, h1, _, _, h4⟩ := h
  have hp : 0 < n := by rw [← h1]; exact List.length_pos_of_mem hq
  obtain ⟨ad, _, xs, h5, _⟩ := h4 hp
  exact cells_qz2 h5 q hq
theorem fn_tr {P : Program} {f : FuncId} {R : T} {As : List T} {D : List Int} {L : List (List Int)} {ts : List (Int × Int)} {a b : Int} {k : Nat} {Ei Eo : List (Nat × Ent)} {N : List Nat} (h : (∀ j, zl (D.getD j 0) ≤ k) → (∀ i j, zl ((L.getD j []).getD i 0) ≤ k) → (∀ i, i < ts.length → zl (ts.getD i (0, 0)).1 ≤ k ∧ zl (ts.getD i (0, 0)).2 ≤ k) → Fn P f (T.Tr D L ts a b k :: As) Ei Eo N R) : Fn P f (T.Tr D L ts a b k :: As) Ei Eo N R := fun vs β u w F hs hr hH => by
  match vs, hr with
  | v0 :: r, ⟨r0, r1⟩ =>
    have r0' := r0
    obtain ⟨cs, _, v1, s1, _, a1, _, v2, s2, _, a2, _, v3, s3, _, a3, _⟩ := r0'
    exact h (getD_zl (l_zl a1)) (ll_zl a2) (fun i hi => l_qz2 a3 (ts.getD i (0, 0)) (by rw [List.getD_eq_getElem?_getD, List.getElem?_eq_getElem hi]; exact List.getElem_mem hi)) _ β u w F hs ⟨r0, r1⟩ hH
/-- The law, of every tree and suffix. -/
theorem t_parts {D : List Int} {L : List (List Int)} {ts : List (Int × Int)} {a b : Int} {k : Nat} {s : List Int} (hk : k ≤ 1048576) (hLl : L.length ≤ 1048576) (hDl : D.length ≤ 1048576) (htl : ts.length ≤ 1048576) (hsl : s.length ≤ 1048576) : Fn Tryz.prog 7 [T.Tr D L ts a b k, T.l (cZi k) s] [] [] [] (T.c (.bool true)) := fn_tr fun zD zL zt => by
  classical
  by_cases hV : TrV D L ts a b
  · obtain ⟨hG, hn, ht, hd, hb, ha⟩ := hV
    have h : TrS D L ts L.length k := ⟨hG, rfl, hn, ht, hd, zt, zD, zL, hk⟩
    rcases Nat.lt_trichotomy s.length L.length with hs | hs | hs
    · exact t_parts4 h hb ha hDl htl hsl hs
    · exact t_parts3 h hb ha hDl htl hsl hs
    · exact t_parts2 h hb ha hDl htl hsl hs
  · exact t_parts1 hk hLl hDl htl hV
end Go.Proofs.YtffnfbhhjjbjbaaGreat.V
/- What is read of the arguments of a law: search trees. -/
set_option linter.unusedVariables false
set_option linter.unusedSimpArgs false
namespace Go.Proofs.YtffnfbhhjjbjbaaGreat.V
open Go.Deep Go.ChangeShapes Go.WideShapes Go.ChangeAt Go.RowKit Mt Nml
section
variable {P : Program} {H : Type} {enc : TypeId × Value → H} {W : World} {base : Nat} {spare : Nat → Bool} {held : Bool} {fuel : Nat} {cs : List Value} {x : DataW H × List MemPlace}
theorem trod_struct3 {t : TypeId} {f0 f1 f2 : Field} (ht : P.underlying t = some (.struct #[f0, f1, f2])) (h : DataW.trod enc P W base spare held fuel t cs = some x) :
    ∃ y0 y1 y2 n, x = (.agg [y0.1, y1.1, y2.1], y0.2 ++ (y1.2 ++ y2.2)) ∧ cs.length = P.cellsOf t ∧ DataW.trod enc P W base spare held n f0.type ((cs.drop f0.offset).take (P.cellsOf f0.type)) = some y0 ∧
      DataW.trod enc P W base spare held n f1.type ((cs.drop f1.offset).take (P.cellsOf f1.type)) = some y1 ∧ DataW.trod enc P W base spare held n f2.type ((cs.drop f2.offset).take (P.cellsOf f2.type)) = some y2 := by
  obtain ⟨xs, n, _, rfl, hl, hlen, hf⟩ := DataW.trod_struct ht h
  match xs, hlen with
  | [y0, y1, y2], _ => exact ⟨y0, y1, y2, n, by simp, hl, by simpa using hf 0 f0 rfl, by simpa using hf 1 f1 rfl, by simpa using hf 2 f2 rfl⟩
set_option maxRecDepth 100000 in
theorem read_Tree {k : Nat} (h : DataW.trod enc Tryz.prog W base spare held fuel 91 cs = some x) (hk : Rows.uptoBulk x.1 ≤ k) : ∃ D L ts a b, (T.Tr D L ts a b k).rep B0 W (.agg cs.toArray) ∧ D.length ≤ k ∧ L.length ≤ k ∧ ts.length ≤ k := by
  obtain ⟨y0, y1, y2, m, rfl, hl, h0, h1, h2⟩ := trod_struct3 Tryz.underlying91 h
  have hl2 : cs.length = 7 := hl.trans (by kernel_rfl)
  have hk' : Rows.uptoBulk y0.1 + (Rows.uptoBulk y1.1 + (Rows.uptoBulk y2.1 + 0)) + 1 ≤ k := hk
  match cs, hl2 with
  | [c0, c1, c2, c3, c4, c5, c6], _ =>
    have k0 : (([c0, c1, c2, c3, c4, c5, c6] : List Value).drop 0).take (Tryz.prog.cellsOf 25) = [c0, c1] := by rw [show Tryz.prog.cellsOf 25 = 2 from by kernel_rfl]; rfl
    have k1 : (([c0, c1, c2, c3, c4, c5, c6] : List Value).drop 2).take (Tryz.prog.cellsOf 26) = [c2] := by rw [show Tryz.prog.cellsOf 26 = 1 from by kernel_rfl]; rfl
    have k2 : (([c0, c1, c2, c3, c4, c5, c6] : List Value).drop 3).take (Tryz.prog.cellsOf 31) = [c3, c4, c5, c6] := by rw [show Tryz.prog.cellsOf 31 = 4 from by kernel_rfl]; rfl
    rw [k0] at h0
    rw [k1] at h1
    rw [k2] at h2
    obtain ⟨D, L, hG, hD, hL⟩ := read_Gso (k := k) h0 (by omega)
    obtain ⟨v, ts, e1, hT, hTn⟩ := read_fracs (k := k) h1 (by omega)
    obtain ⟨a, b, hR⟩ := read_Frac (k := k) h2 (by omega)
    cases e1
    refine ⟨D, L, ts, a, b, tr_flat (A := T.l (cZi k) D) (B := T.l (cL (cZi k)) L) (C := T.l (cQi k) ts) (D := T.Zi a k) (E := T.Zi b k) _ _ _ ⟨[c0, c1, c2, c3, c4, c5, c6], rfl, .agg #[c0, c1], [c2, c3, c4, c5, c6], by show (2 : Nat) ≠ 0; omega, hG, rfl, c2, [c3, c4, c5, c6], by show (1 : Nat) ≠ 0; omega, hT, ?_, .agg #[c3, c4, c5, c6], [], by show (4 : Nat) ≠ 0; omega, hR, rfl, rfl⟩, hD, hL, by omega⟩
    obtain ⟨A, n, q, rfl, _⟩ := hT
    rfl
end
end Go.Proofs.YtffnfbhhjjbjbaaGreat.V
