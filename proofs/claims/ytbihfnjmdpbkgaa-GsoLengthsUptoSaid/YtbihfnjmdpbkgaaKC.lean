/- The law of the parts of data. -/
import Derived.Test.YtbihfnjmdpbkgaaKB
set_option linter.unusedVariables false
set_option linter.unusedSimpArgs false
set_option maxRecDepth 100000
namespace Go.Proofs.Ytbihfnjmdpbkgaa.V
open Go.RowKit Mt Nml
theorem parts_no {D : List Int} {L : List (List Int)} {k  : Nat} {z y : Int} (hk : k ≤ 1073741824) (hLl : L.length ≤ 1048576) (hDl : D.length ≤ 1073741824) (hG : ¬ GoodP D L) : Fn Try.prog 6 [T.G D L k, T.c (.int .i64 z), T.c (.int .i64 y)] [] [] [] (T.c (.bool true)) := by
  refine fn_of Try.func6 rfl (by show 3 ≤ 101; decide) fun cx hcx => ?_
  refine tri_sub (sl 0 rfl (sl 1 rfl (sl 2 rfl sn))) en ?_
  have hzq := zq0
  refine tri_seq ?_
  refine tri_reg mixed hcx ?_ _ _
  refine bxs 10 rfl ?_
  refine asg rfl ?_
  refine ⟨by kernel_rfl, ?_⟩
  refine nx (sl 1 rfl (sl 2 rfl (sl 3 rfl sn))) (el 10 rfl en) ?_
  refine tri_seq ?_
  refine tri_reg mixed hcx ?_ _ _
  refine ld rfl rfl tyG rfl ?_
  refine mv rfl ?_
  refine mv rfl ?_
  refine ca rfl (h := g_Mu_no (i := 0) hk hLl hDl hG) (hn := ?_)
  refine mv rfl ?_
  refine ex rfl rfl ?_
  refine ex rfl rfl ?_
  refine nw 117 zeQ ?_
  refine st rfl rfl rfl tyQ rfl ?_
  refine asg rfl ?_
  refine ⟨by kernel_rfl, ?_⟩
  refine nx (sl 1 rfl (sl 2 rfl (sl 3 rfl (sl 7 rfl (sl 8 rfl sn))))) (el 10 rfl (el 117 rfl en)) ?_
  refine tri_seq ?_
  refine tri_reg mixed hcx ?_ _ _
  refine ld rfl rfl tyG rfl ?_
  refine mv rfl ?_
  refine ca rfl (h := g_Star_no (i := 0) hk hLl hDl hG) (hn := ?_)
  refine mv rfl ?_
  refine ex rfl rfl ?_
  refine ex rfl rfl ?_
  refine nw 216 zeQ ?_
  refine st rfl rfl rfl tyQ rfl ?_
  refine asg rfl ?_
  refine ⟨by kernel_rfl, ?_⟩
  refine nx (sl 1 rfl (sl 2 rfl (sl 3 rfl (sl 7 rfl (sl 8 rfl (sl 9 rfl (sl 10 rfl sn))))))) (el 10 rfl (el 117 rfl (el 216 rfl en))) ?_
  refine tri_seq ?_
  refine tri_seq ?_
  refine tri_reg mixed hcx ?_ _ _
  refine ld rfl rfl tyG rfl ?_
  refine ca rfl (h := r05_Good (q := false) ⟨fun h => (by cases h), fun h => absurd h hG⟩ (by omega) (by omega) (by omega)) (hn := ?_)
  refine nt rfl _ rfl ?_
  refine ⟨by kernel_rfl, ?_⟩
  refine nx (sl 1 rfl (sl 2 rfl (sl 3 rfl (sl 7 rfl (sl 8 rfl (sl 9 rfl (sl 10 rfl (sl 26 rfl sn)))))))) (el 10 rfl (el 117 rfl (el 216 rfl en))) ?_
  refine tri_true rfl rfl ?_
  refine tri_seq ?_
  refine tri_reg mixed hcx ?_ _ _
  refine mv rfl ?_
  refine ceq rfl rfl (decide_eq_true (by omega)) ?_
  refine mv rfl ?_
  refine mv rfl ?_ (hg := gd1)
  refine ceq rfl rfl (decide_eq_true (by omega)) ?_ (hg := gd1)
  refine pk rfl rfl ?_
  refine mv rfl ?_
  refine ld rfl rfl tyQ rfl ?_ (hg := gd1)
  refine bu stQ rfl ?_ (hg := gd1)
  refine ca rfl (h := law_same (by omega) (by omega)) (hn := ?_) (hg := gd1)
  refine pk rfl rfl ?_
  refine mv rfl ?_
  refine ld rfl rfl tyQ rfl ?_ (hg := gd1)
  refine bu stQ rfl ?_ (hg := gd1)
  refine ca rfl (h := law_same (by omega) (by omega)) (hn := ?_) (hg := gd1)
  refine pk rfl rfl ?_
  refine mv rfl ?_
  refine ca rfl (h := law_awake) (hn := ?_) (hg := gd1)
  refine pk rfl rfl ?_
  refine asg rfl ?_
  refine ⟨by kernel_rfl, ?_⟩
  refine nx (sl 6 rfl sn) (el 10 rfl (el 117 rfl (el 216 rfl en))) ?_
  refine tri_ret ?_
  repeat (first | refine pn_thenr ?_ | refine pn_blkr ?_)
  exact ret1 hcx rfl (rv_tmp rfl) (.refl _) en

theorem parts_out {D : List Int} {L : List (List Int)} {k  : Nat} {z y : Int} (hk : k ≤ 1073741824) (hLl : L.length ≤ 1048576) (hG : GoodP D L) (hz : ¬ (0 ≤ z ∧ z < (L.length : Int))) : Fn Try.prog 6 [T.G D L k, T.c (.int .i64 z), T.c (.int .i64 y)] [] [] [] (T.c (.bool true)) := by
  refine fn_of Try.func6 rfl (by show 3 ≤ 101; decide) fun cx hcx => ?_
  refine tri_sub (sl 0 rfl (sl 1 rfl (sl 2 rfl sn))) en ?_
  have hzq := zq0
  have hDL := hG.2.1
  refine tri_seq ?_
  refine tri_reg mixed hcx ?_ _ _
  refine bxs 10 rfl ?_
  refine asg rfl ?_
  refine ⟨by kernel_rfl, ?_⟩
  refine nx (sl 1 rfl (sl 2 rfl (sl 3 rfl sn))) (el 10 rfl en) ?_
  refine tri_seq ?_
  refine tri_reg mixed hcx ?_ _ _
  refine ld rfl rfl tyG rfl ?_
  refine mv rfl ?_
  refine mv rfl ?_
  refine ca rfl (h := g_Mu_out (i := 0) hk hLl hG (fun h => hz ⟨by omega, h.2.2⟩)) (hn := ?_)
  refine mv rfl ?_
  refine ex rfl rfl ?_
  refine ex rfl rfl ?_
  refine nw 117 zeQ ?_
  refine st rfl rfl rfl tyQ rfl ?_
  refine asg rfl ?_
  refine ⟨by kernel_rfl, ?_⟩
  refine nx (sl 1 rfl (sl 2 rfl (sl 3 rfl (sl 7 rfl (sl 8 rfl sn))))) (el 10 rfl (el 117 rfl en)) ?_
  refine tri_seq ?_
  refine tri_reg mixed hcx ?_ _ _
  refine ld rfl rfl tyG rfl ?_
  refine mv rfl ?_
  refine ca rfl (h := g_Star_out (i := 0) hk hLl hG hz) (hn := ?_)
  refine mv rfl ?_
  refine ex rfl rfl ?_
  refine ex rfl rfl ?_
  refine nw 216 zeQ ?_
  refine st rfl rfl rfl tyQ rfl ?_
  refine asg rfl ?_
  refine ⟨by kernel_rfl, ?_⟩
  refine nx (sl 1 rfl (sl 2 rfl (sl 3 rfl (sl 7 rfl (sl 8 rfl (sl 9 rfl (sl 10 rfl sn))))))) (el 10 rfl (el 117 rfl (el 216 rfl en))) ?_
  refine tri_seq ?_
  refine tri_seq ?_
  refine tri_reg mixed hcx ?_ _ _
  refine ld rfl rfl tyG rfl ?_
  refine ca rfl (h := r05_Good (q := true) ⟨fun _ => hG, fun _ => rfl⟩ (by omega) (by omega) (by omega)) (hn := ?_)
  refine nt rfl _ rfl ?_
  refine ⟨by kernel_rfl, ?_⟩
  refine nx (sl 1 rfl (sl 2 rfl (sl 3 rfl (sl 7 rfl (sl 8 rfl (sl 9 rfl (sl 10 rfl (sl 26 rfl sn)))))))) (el 10 rfl (el 117 rfl (el 216 rfl en))) ?_
  refine tri_false rfl rfl ?_
  refine tri_skip ?_
  refine nx (sl 1 rfl (sl 2 rfl (sl 3 rfl (sl 7 rfl (sl 8 rfl (sl 9 rfl (sl 10 rfl sn))))))) (el 10 rfl (el 117 rfl (el 216 rfl en))) ?_
  refine tri_seq ?_
  refine tri_seq ?_
  rcases Int.lt_or_le z 0 with h | h
  · refine tri_reg mixed hcx ?_ _ _
    refine mv rfl ?_
    refine clt rfl rfl (decide_eq_true (by omega)) ?_
    refine mv rfl ?_
    refine j_off rfl rfl rfl rfl ?_
    refine j_off rfl rfl rfl rfl ?_
    refine j_off rfl rfl rfl rfl ?_
    refine j_off rfl rfl rfl rfl ?_
    refine j_off rfl rfl rfl rfl ?_
    refine pk rfl rfl ?_
    refine ⟨by kernel_rfl, ?_⟩
    refine nx (sl 1 rfl (sl 2 rfl (sl 3 rfl (sl 7 rfl (sl 8 rfl (sl 9 rfl (sl 10 rfl (sl 54 rfl sn)))))))) (el 10 rfl (el 117 rfl (el 216 rfl en))) ?_
    refine tri_true rfl rfl ?_
    refine tri_seq ?_
    refine tri_reg mixed hcx ?_ _ _
    refine mv rfl ?_
    refine cne rfl rfl (decide_eq_false (by omega)) ?_
    refine mv rfl ?_
    refine ld rfl rfl tyQ rfl ?_ (hg := gd1)
    refine bu stQ rfl ?_ (hg := gd1)
    refine ca rfl (h := law_same (by omega) (by omega)) (hn := ?_) (hg := gd1)
    refine nt rfl _ rfl ?_ (hg := gd1)
    refine pk rfl rfl ?_
    refine ⟨by kernel_rfl, ?_⟩
    refine nx (sl 1 rfl (sl 2 rfl (sl 3 rfl (sl 7 rfl (sl 8 rfl (sl 62 rfl sn)))))) (el 10 rfl (el 117 rfl (el 216 rfl en))) ?_
    refine tri_false rfl rfl ?_
    refine tri_skip ?_
    refine nx (sl 1 rfl (sl 2 rfl (sl 3 rfl (sl 7 rfl (sl 8 rfl sn))))) (el 10 rfl (el 117 rfl (el 216 rfl en))) ?_
    refine tri_seq ?_
    refine tri_seq ?_
    refine tri_reg mixed hcx ?_ _ _
    refine ld rfl rfl tyG rfl ?_
    refine mv rfl ?_
    refine mv rfl ?_
    refine ca rfl (h := law_place (q := false) ⟨fun h => (by cases h), fun h => absurd ⟨by omega, h.2.2⟩ hz⟩) (hn := ?_)
    refine nt rfl _ rfl ?_
    refine ⟨by kernel_rfl, ?_⟩
    refine nx (sl 1 rfl (sl 2 rfl (sl 3 rfl (sl 7 rfl (sl 8 rfl (sl 77 rfl sn)))))) (el 10 rfl (el 117 rfl (el 216 rfl en))) ?_
    refine tri_true rfl rfl ?_
    refine tri_seq ?_
    refine tri_reg mixed hcx ?_ _ _
    refine mv rfl ?_
    refine ceq rfl rfl (decide_eq_true (by omega)) ?_
    refine mv rfl ?_
    refine ld rfl rfl tyQ rfl ?_ (hg := gd1)
    refine bu stQ rfl ?_ (hg := gd1)
    refine ca rfl (h := law_same (by omega) (by omega)) (hn := ?_) (hg := gd1)
    refine pk rfl rfl ?_
    refine mv rfl ?_
    refine ca rfl (h := law_awake) (hn := ?_) (hg := gd1)
    refine pk rfl rfl ?_
    refine asg rfl ?_
    refine ⟨by kernel_rfl, ?_⟩
    refine nx (sl 6 rfl sn) (el 10 rfl (el 117 rfl (el 216 rfl en))) ?_
    refine tri_ret ?_
    repeat (first | refine pn_thenr ?_ | refine pn_blkr ?_)
    exact ret1 hcx rfl (rv_tmp rfl) (.refl _) en
  · refine tri_reg mixed hcx ?_ _ _
    refine mv rfl ?_
    refine clt rfl rfl (decide_eq_false (by omega)) ?_
    refine mv rfl ?_
    refine mv rfl ?_ (hg := gd1)
    refine fa rfl fL 1 ?_ (hg := gd1)
    refine ld rfl rfl tyZss rfl ?_ (hg := gd1)
    refine ln slZss rfl ?_ (hg := gd1)
    refine cge rfl rfl (decide_eq_true (by omega)) ?_ (hg := gd1)
    refine pk rfl rfl ?_
    refine ⟨by kernel_rfl, ?_⟩
    refine nx (sl 1 rfl (sl 2 rfl (sl 3 rfl (sl 7 rfl (sl 8 rfl (sl 9 rfl (sl 10 rfl (sl 54 rfl sn)))))))) (el 10 rfl (el 117 rfl (el 216 rfl en))) ?_
    refine tri_true rfl rfl ?_
    refine tri_seq ?_
    refine tri_reg mixed hcx ?_ _ _
    refine mv rfl ?_
    refine cne rfl rfl (decide_eq_false (by omega)) ?_
    refine mv rfl ?_
    refine ld rfl rfl tyQ rfl ?_ (hg := gd1)
    refine bu stQ rfl ?_ (hg := gd1)
    refine ca rfl (h := law_same (by omega) (by omega)) (hn := ?_) (hg := gd1)
    refine nt rfl _ rfl ?_ (hg := gd1)
    refine pk rfl rfl ?_
    refine ⟨by kernel_rfl, ?_⟩
    refine nx (sl 1 rfl (sl 2 rfl (sl 3 rfl (sl 7 rfl (sl 8 rfl (sl 62 rfl sn)))))) (el 10 rfl (el 117 rfl (el 216 rfl en))) ?_
    refine tri_false rfl rfl ?_
    refine tri_skip ?_
    refine nx (sl 1 rfl (sl 2 rfl (sl 3 rfl (sl 7 rfl (sl 8 rfl sn))))) (el 10 rfl (el 117 rfl (el 216 rfl en))) ?_
    refine tri_seq ?_
    refine tri_seq ?_
    refine tri_reg mixed hcx ?_ _ _
    refine ld rfl rfl tyG rfl ?_
    refine mv rfl ?_
    refine mv rfl ?_
    refine ca rfl (h := law_place (q := false) ⟨fun h => (by cases h), fun h => absurd ⟨by omega, h.2.2⟩ hz⟩) (hn := ?_)
    refine nt rfl _ rfl ?_
    refine ⟨by kernel_rfl, ?_⟩
    refine nx (sl 1 rfl (sl 2 rfl (sl 3 rfl (sl 7 rfl (sl 8 rfl (sl 77 rfl sn)))))) (el 10 rfl (el 117 rfl (el 216 rfl en))) ?_
    refine tri_true rfl rfl ?_
    refine tri_seq ?_
    refine tri_reg mixed hcx ?_ _ _
    refine mv rfl ?_
    refine ceq rfl rfl (decide_eq_true (by omega)) ?_
    refine mv rfl ?_
    refine ld rfl rfl tyQ rfl ?_ (hg := gd1)
    refine bu stQ rfl ?_ (hg := gd1)
    refine ca rfl (h := law_same (by omega) (by omega)) (hn := ?_) (hg := gd1)
    refine pk rfl rfl ?_
    refine mv rfl ?_
    refine ca rfl (h := law_awake) (hn := ?_) (hg := gd1)
    refine pk rfl rfl ?_
    refine asg rfl ?_
    refine ⟨by kernel_rfl, ?_⟩
    refine nx (sl 6 rfl sn) (el 10 rfl (el 117 rfl (el 216 rfl en))) ?_
    refine tri_ret ?_
    repeat (first | refine pn_thenr ?_ | refine pn_blkr ?_)
    exact ret1 hcx rfl (rv_tmp rfl) (.refl _) en

theorem parts_place {D : List Int} {L : List (List Int)} {k i : Nat} {y : Int} (hk : k ≤ 1073741824) (hLl : L.length ≤ 1048576) (hG : GoodP D L) (hi : i < L.length) (hy : ¬ (0 ≤ y ∧ y ≤ (i : Int))) : Fn Try.prog 6 [T.G D L k, T.c (.int .i64 (i : Int)), T.c (.int .i64 y)] [] [] [] (T.c (.bool true)) := by
  refine fn_of Try.func6 rfl (by show 3 ≤ 101; decide) fun cx hcx => ?_
  refine tri_sub (sl 0 rfl (sl 1 rfl (sl 2 rfl sn))) en ?_
  have hzq := zq0
  have hDL := hG.2.1
  refine tri_seq ?_
  refine tri_reg mixed hcx ?_ _ _
  refine bxs 10 rfl ?_
  refine asg rfl ?_
  refine ⟨by kernel_rfl, ?_⟩
  refine nx (sl 1 rfl (sl 2 rfl (sl 3 rfl sn))) (el 10 rfl en) ?_
  refine tri_seq ?_
  refine tri_reg mixed hcx ?_ _ _
  refine ld rfl rfl tyG rfl ?_
  refine mv rfl ?_
  refine mv rfl ?_
  refine ca rfl (h := g_Mu_out (i := 0) hk hLl hG (fun h => hy ⟨h.1, h.2.1⟩)) (hn := ?_)
  refine mv rfl ?_
  refine ex rfl rfl ?_
  refine ex rfl rfl ?_
  refine nw 117 zeQ ?_
  refine st rfl rfl rfl tyQ rfl ?_
  refine asg rfl ?_
  refine ⟨by kernel_rfl, ?_⟩
  refine nx (sl 1 rfl (sl 2 rfl (sl 3 rfl (sl 7 rfl (sl 8 rfl sn))))) (el 10 rfl (el 117 rfl en)) ?_
  refine tri_seq ?_
  refine tri_reg mixed hcx ?_ _ _
  refine ld rfl rfl tyG rfl ?_
  refine mv rfl ?_
  refine ca rfl (h := g_Star hk hLl hG hi) (hn := ?_)
  refine mv rfl ?_
  refine ex rfl rfl ?_
  refine ex rfl rfl ?_
  refine nw 216 zeQ ?_
  refine st rfl rfl rfl tyQ rfl ?_
  refine asg rfl ?_
  refine ⟨by kernel_rfl, ?_⟩
  refine nx (sl 1 rfl (sl 2 rfl (sl 3 rfl (sl 7 rfl (sl 8 rfl (sl 9 rfl (sl 10 rfl sn))))))) (el 10 rfl (el 117 rfl (el 216 rfl en))) ?_
  refine tri_seq ?_
  refine tri_seq ?_
  refine tri_reg mixed hcx ?_ _ _
  refine ld rfl rfl tyG rfl ?_
  refine ca rfl (h := r05_Good (q := true) ⟨fun _ => hG, fun _ => rfl⟩ (by omega) (by omega) (by omega)) (hn := ?_)
  refine nt rfl _ rfl ?_
  refine ⟨by kernel_rfl, ?_⟩
  refine nx (sl 1 rfl (sl 2 rfl (sl 3 rfl (sl 7 rfl (sl 8 rfl (sl 9 rfl (sl 10 rfl (sl 26 rfl sn)))))))) (el 10 rfl (el 117 rfl (el 216 rfl en))) ?_
  refine tri_false rfl rfl ?_
  refine tri_skip ?_
  refine nx (sl 1 rfl (sl 2 rfl (sl 3 rfl (sl 7 rfl (sl 8 rfl (sl 9 rfl (sl 10 rfl sn))))))) (el 10 rfl (el 117 rfl (el 216 rfl en))) ?_
  refine tri_seq ?_
  refine tri_seq ?_
  refine tri_reg mixed hcx ?_ _ _
  refine mv rfl ?_
  refine clt rfl rfl (decide_eq_false (by omega)) ?_
  refine mv rfl ?_
  refine mv rfl ?_ (hg := gd1)
  refine fa rfl fL 1 ?_ (hg := gd1)
  refine ld rfl rfl tyZss rfl ?_ (hg := gd1)
  refine ln slZss rfl ?_ (hg := gd1)
  refine cge rfl rfl (decide_eq_false (by omega)) ?_ (hg := gd1)
  refine pk rfl rfl ?_
  refine ⟨by kernel_rfl, ?_⟩
  refine nx (sl 1 rfl (sl 2 rfl (sl 3 rfl (sl 7 rfl (sl 8 rfl (sl 9 rfl (sl 10 rfl (sl 54 rfl sn)))))))) (el 10 rfl (el 117 rfl (el 216 rfl en))) ?_
  refine tri_false rfl rfl ?_
  refine tri_seq ?_
  refine tri_reg mixed hcx ?_ _ _
  refine mv rfl ?_
  refine cne rfl rfl (decide_eq_false (by omega)) ?_
  refine mv rfl ?_
  refine ld rfl rfl tyQ rfl ?_ (hg := gd1)
  refine ld rfl rfl tyG rfl ?_ (hg := gd1)
  refine mv rfl ?_ (hg := gd1)
  refine ca rfl (h := r05_Star hk hLl hG hi) (hn := ?_) (hg := gd1)
  refine ca rfl (h := law_same (by omega) (by omega)) (hn := ?_) (hg := gd1)
  refine nt rfl _ rfl ?_ (hg := gd1)
  refine pk rfl rfl ?_
  refine ⟨by kernel_rfl, ?_⟩
  refine nx (sl 1 rfl (sl 2 rfl (sl 3 rfl (sl 7 rfl (sl 8 rfl (sl 72 rfl sn)))))) (el 10 rfl (el 117 rfl (el 216 rfl en))) ?_
  refine tri_false rfl rfl ?_
  refine tri_skip ?_
  refine nx (sl 1 rfl (sl 2 rfl (sl 3 rfl (sl 7 rfl (sl 8 rfl sn))))) (el 10 rfl (el 117 rfl (el 216 rfl en))) ?_
  refine tri_seq ?_
  refine tri_seq ?_
  refine tri_reg mixed hcx ?_ _ _
  refine ld rfl rfl tyG rfl ?_
  refine mv rfl ?_
  refine mv rfl ?_
  refine ca rfl (h := law_place (q := false) ⟨fun h => (by cases h), fun h => absurd ⟨h.1, h.2.1⟩ hy⟩) (hn := ?_)
  refine nt rfl _ rfl ?_
  refine ⟨by kernel_rfl, ?_⟩
  refine nx (sl 1 rfl (sl 2 rfl (sl 3 rfl (sl 7 rfl (sl 8 rfl (sl 77 rfl sn)))))) (el 10 rfl (el 117 rfl (el 216 rfl en))) ?_
  refine tri_true rfl rfl ?_
  refine tri_seq ?_
  refine tri_reg mixed hcx ?_ _ _
  refine mv rfl ?_
  refine ceq rfl rfl (decide_eq_true (by omega)) ?_
  refine mv rfl ?_
  refine ld rfl rfl tyQ rfl ?_ (hg := gd1)
  refine bu stQ rfl ?_ (hg := gd1)
  refine ca rfl (h := law_same (by omega) (by omega)) (hn := ?_) (hg := gd1)
  refine pk rfl rfl ?_
  refine mv rfl ?_
  refine ca rfl (h := law_awake) (hn := ?_) (hg := gd1)
  refine pk rfl rfl ?_
  refine asg rfl ?_
  refine ⟨by kernel_rfl, ?_⟩
  refine nx (sl 6 rfl sn) (el 10 rfl (el 117 rfl (el 216 rfl en))) ?_
  refine tri_ret ?_
  repeat (first | refine pn_thenr ?_ | refine pn_blkr ?_)
  exact ret1 hcx rfl (rv_tmp rfl) (.refl _) en

theorem parts_eq {D : List Int} {L : List (List Int)} {k i : Nat} (hk : k ≤ 1073741824) (hLl : L.length ≤ 1048576) (hG : GoodP D L) (hi : i < L.length)  : Fn Try.prog 6 [T.G D L k, T.c (.int .i64 (i : Int)), T.c (.int .i64 (i : Int))] [] [] [] (T.c (.bool true)) := by
  refine fn_of Try.func6 rfl (by show 3 ≤ 101; decide) fun cx hcx => ?_
  refine tri_sub (sl 0 rfl (sl 1 rfl (sl 2 rfl sn))) en ?_
  have hzq := zq0
  have hDL := hG.2.1
  refine tri_seq ?_
  refine tri_reg mixed hcx ?_ _ _
  refine bxs 10 rfl ?_
  refine asg rfl ?_
  refine ⟨by kernel_rfl, ?_⟩
  refine nx (sl 1 rfl (sl 2 rfl (sl 3 rfl sn))) (el 10 rfl en) ?_
  refine tri_seq ?_
  refine tri_reg mixed hcx ?_ _ _
  refine ld rfl rfl tyG rfl ?_
  refine mv rfl ?_
  refine mv rfl ?_
  refine ca rfl (h := g_Mu_eq hk hLl hG hi) (hn := ?_)
  refine mv rfl ?_
  refine ex rfl rfl ?_
  refine ex rfl rfl ?_
  refine nw 117 zeQ ?_
  refine st rfl rfl rfl tyQ rfl ?_
  refine asg rfl ?_
  refine ⟨by kernel_rfl, ?_⟩
  refine nx (sl 1 rfl (sl 2 rfl (sl 3 rfl (sl 7 rfl (sl 8 rfl sn))))) (el 10 rfl (el 117 rfl en)) ?_
  refine tri_seq ?_
  refine tri_reg mixed hcx ?_ _ _
  refine ld rfl rfl tyG rfl ?_
  refine mv rfl ?_
  refine ca rfl (h := g_Star hk hLl hG hi) (hn := ?_)
  refine mv rfl ?_
  refine ex rfl rfl ?_
  refine ex rfl rfl ?_
  refine nw 216 zeQ ?_
  refine st rfl rfl rfl tyQ rfl ?_
  refine asg rfl ?_
  refine ⟨by kernel_rfl, ?_⟩
  refine nx (sl 1 rfl (sl 2 rfl (sl 3 rfl (sl 7 rfl (sl 8 rfl (sl 9 rfl (sl 10 rfl sn))))))) (el 10 rfl (el 117 rfl (el 216 rfl en))) ?_
  refine tri_seq ?_
  refine tri_seq ?_
  refine tri_reg mixed hcx ?_ _ _
  refine ld rfl rfl tyG rfl ?_
  refine ca rfl (h := r05_Good (q := true) ⟨fun _ => hG, fun _ => rfl⟩ (by omega) (by omega) (by omega)) (hn := ?_)
  refine nt rfl _ rfl ?_
  refine ⟨by kernel_rfl, ?_⟩
  refine nx (sl 1 rfl (sl 2 rfl (sl 3 rfl (sl 7 rfl (sl 8 rfl (sl 9 rfl (sl 10 rfl (sl 26 rfl sn)))))))) (el 10 rfl (el 117 rfl (el 216 rfl en))) ?_
  refine tri_false rfl rfl ?_
  refine tri_skip ?_
  refine nx (sl 1 rfl (sl 2 rfl (sl 3 rfl (sl 7 rfl (sl 8 rfl (sl 9 rfl (sl 10 rfl sn))))))) (el 10 rfl (el 117 rfl (el 216 rfl en))) ?_
  refine tri_seq ?_
  refine tri_seq ?_
  refine tri_reg mixed hcx ?_ _ _
  refine mv rfl ?_
  refine clt rfl rfl (decide_eq_false (by omega)) ?_
  refine mv rfl ?_
  refine mv rfl ?_ (hg := gd1)
  refine fa rfl fL 1 ?_ (hg := gd1)
  refine ld rfl rfl tyZss rfl ?_ (hg := gd1)
  refine ln slZss rfl ?_ (hg := gd1)
  refine cge rfl rfl (decide_eq_false (by omega)) ?_ (hg := gd1)
  refine pk rfl rfl ?_
  refine ⟨by kernel_rfl, ?_⟩
  refine nx (sl 1 rfl (sl 2 rfl (sl 3 rfl (sl 7 rfl (sl 8 rfl (sl 9 rfl (sl 10 rfl (sl 54 rfl sn)))))))) (el 10 rfl (el 117 rfl (el 216 rfl en))) ?_
  refine tri_false rfl rfl ?_
  refine tri_seq ?_
  refine tri_reg mixed hcx ?_ _ _
  refine mv rfl ?_
  refine cne rfl rfl (decide_eq_false (by omega)) ?_
  refine mv rfl ?_
  refine ld rfl rfl tyQ rfl ?_ (hg := gd1)
  refine ld rfl rfl tyG rfl ?_ (hg := gd1)
  refine mv rfl ?_ (hg := gd1)
  refine ca rfl (h := r05_Star hk hLl hG hi) (hn := ?_) (hg := gd1)
  refine ca rfl (h := law_same (by omega) (by omega)) (hn := ?_) (hg := gd1)
  refine nt rfl _ rfl ?_ (hg := gd1)
  refine pk rfl rfl ?_
  refine ⟨by kernel_rfl, ?_⟩
  refine nx (sl 1 rfl (sl 2 rfl (sl 3 rfl (sl 7 rfl (sl 8 rfl (sl 72 rfl sn)))))) (el 10 rfl (el 117 rfl (el 216 rfl en))) ?_
  refine tri_false rfl rfl ?_
  refine tri_skip ?_
  refine nx (sl 1 rfl (sl 2 rfl (sl 3 rfl (sl 7 rfl (sl 8 rfl sn))))) (el 10 rfl (el 117 rfl (el 216 rfl en))) ?_
  refine tri_seq ?_
  refine tri_seq ?_
  refine tri_reg mixed hcx ?_ _ _
  refine ld rfl rfl tyG rfl ?_
  refine mv rfl ?_
  refine mv rfl ?_
  refine ca rfl (h := law_place (q := true) ⟨fun _ => ⟨by omega, by omega, by omega⟩, fun _ => rfl⟩) (hn := ?_)
  refine nt rfl _ rfl ?_
  refine ⟨by kernel_rfl, ?_⟩
  refine nx (sl 1 rfl (sl 2 rfl (sl 3 rfl (sl 7 rfl (sl 8 rfl (sl 77 rfl sn)))))) (el 10 rfl (el 117 rfl (el 216 rfl en))) ?_
  refine tri_false rfl rfl ?_
  refine tri_skip ?_
  refine nx (sl 1 rfl (sl 2 rfl (sl 3 rfl (sl 7 rfl (sl 8 rfl sn))))) (el 10 rfl (el 117 rfl (el 216 rfl en))) ?_
  refine tri_seq ?_
  refine tri_reg mixed hcx ?_ _ _
  refine mv rfl ?_
  refine ceq rfl rfl (decide_eq_true (by omega)) ?_
  refine mv rfl ?_
  refine ld rfl rfl tyQ rfl ?_ (hg := gd1)
  refine ld rfl rfl tyG rfl ?_ (hg := gd1)
  refine mv rfl ?_ (hg := gd1)
  refine mv rfl ?_ (hg := gd1)
  refine ca rfl (h := r05_Mu_eq hk hLl hG hi) (hn := ?_) (hg := gd1)
  refine ca rfl (h := law_same (by omega) (by omega)) (hn := ?_) (hg := gd1)
  refine pk rfl rfl ?_
  refine mv rfl ?_
  refine ca rfl (h := law_awake) (hn := ?_) (hg := gd1)
  refine pk rfl rfl ?_
  refine asg rfl ?_
  refine ⟨by kernel_rfl, ?_⟩
  refine nx (sl 6 rfl sn) (el 10 rfl (el 117 rfl (el 216 rfl en))) ?_
  refine tri_ret ?_
  repeat (first | refine pn_thenr ?_ | refine pn_blkr ?_)
  exact ret1 hcx rfl (rv_tmp rfl) (.refl _) en

theorem parts_ok {D : List Int} {L : List (List Int)} {k i j : Nat} (hk : k ≤ 1073741824) (hLl : L.length ≤ 1048576) (hG : GoodP D L) (hi : i < L.length) (hj : j < i) : Fn Try.prog 6 [T.G D L k, T.c (.int .i64 (i : Int)), T.c (.int .i64 (j : Int))] [] [] [] (T.c (.bool true)) := by
  refine fn_of Try.func6 rfl (by show 3 ≤ 101; decide) fun cx hcx => ?_
  refine tri_sub (sl 0 rfl (sl 1 rfl (sl 2 rfl sn))) en ?_
  have hzq := zq0
  have hDL := hG.2.1
  refine tri_seq ?_
  refine tri_reg mixed hcx ?_ _ _
  refine bxs 10 rfl ?_
  refine asg rfl ?_
  refine ⟨by kernel_rfl, ?_⟩
  refine nx (sl 1 rfl (sl 2 rfl (sl 3 rfl sn))) (el 10 rfl en) ?_
  refine tri_seq ?_
  refine tri_reg mixed hcx ?_ _ _
  refine ld rfl rfl tyG rfl ?_
  refine mv rfl ?_
  refine mv rfl ?_
  refine ca rfl (h := g_Mu hk hLl hG hi hj) (hn := ?_)
  refine mv rfl ?_
  refine ex rfl rfl ?_
  refine ex rfl rfl ?_
  refine nw 117 zeQ ?_
  refine st rfl rfl rfl tyQ rfl ?_
  refine asg rfl ?_
  refine ⟨by kernel_rfl, ?_⟩
  refine nx (sl 1 rfl (sl 2 rfl (sl 3 rfl (sl 7 rfl (sl 8 rfl sn))))) (el 10 rfl (el 117 rfl en)) ?_
  refine tri_seq ?_
  refine tri_reg mixed hcx ?_ _ _
  refine ld rfl rfl tyG rfl ?_
  refine mv rfl ?_
  refine ca rfl (h := g_Star hk hLl hG hi) (hn := ?_)
  refine mv rfl ?_
  refine ex rfl rfl ?_
  refine ex rfl rfl ?_
  refine nw 216 zeQ ?_
  refine st rfl rfl rfl tyQ rfl ?_
  refine asg rfl ?_
  refine ⟨by kernel_rfl, ?_⟩
  refine nx (sl 1 rfl (sl 2 rfl (sl 3 rfl (sl 7 rfl (sl 8 rfl (sl 9 rfl (sl 10 rfl sn))))))) (el 10 rfl (el 117 rfl (el 216 rfl en))) ?_
  refine tri_seq ?_
  refine tri_seq ?_
  refine tri_reg mixed hcx ?_ _ _
  refine ld rfl rfl tyG rfl ?_
  refine ca rfl (h := r05_Good (q := true) ⟨fun _ => hG, fun _ => rfl⟩ (by omega) (by omega) (by omega)) (hn := ?_)
  refine nt rfl _ rfl ?_
  refine ⟨by kernel_rfl, ?_⟩
  refine nx (sl 1 rfl (sl 2 rfl (sl 3 rfl (sl 7 rfl (sl 8 rfl (sl 9 rfl (sl 10 rfl (sl 26 rfl sn)))))))) (el 10 rfl (el 117 rfl (el 216 rfl en))) ?_
  refine tri_false rfl rfl ?_
  refine tri_skip ?_
  refine nx (sl 1 rfl (sl 2 rfl (sl 3 rfl (sl 7 rfl (sl 8 rfl (sl 9 rfl (sl 10 rfl sn))))))) (el 10 rfl (el 117 rfl (el 216 rfl en))) ?_
  refine tri_seq ?_
  refine tri_seq ?_
  refine tri_reg mixed hcx ?_ _ _
  refine mv rfl ?_
  refine clt rfl rfl (decide_eq_false (by omega)) ?_
  refine mv rfl ?_
  refine mv rfl ?_ (hg := gd1)
  refine fa rfl fL 1 ?_ (hg := gd1)
  refine ld rfl rfl tyZss rfl ?_ (hg := gd1)
  refine ln slZss rfl ?_ (hg := gd1)
  refine cge rfl rfl (decide_eq_false (by omega)) ?_ (hg := gd1)
  refine pk rfl rfl ?_
  refine ⟨by kernel_rfl, ?_⟩
  refine nx (sl 1 rfl (sl 2 rfl (sl 3 rfl (sl 7 rfl (sl 8 rfl (sl 9 rfl (sl 10 rfl (sl 54 rfl sn)))))))) (el 10 rfl (el 117 rfl (el 216 rfl en))) ?_
  refine tri_false rfl rfl ?_
  refine tri_seq ?_
  refine tri_reg mixed hcx ?_ _ _
  refine mv rfl ?_
  refine cne rfl rfl (decide_eq_false (by omega)) ?_
  refine mv rfl ?_
  refine ld rfl rfl tyQ rfl ?_ (hg := gd1)
  refine ld rfl rfl tyG rfl ?_ (hg := gd1)
  refine mv rfl ?_ (hg := gd1)
  refine ca rfl (h := r05_Star hk hLl hG hi) (hn := ?_) (hg := gd1)
  refine ca rfl (h := law_same (by omega) (by omega)) (hn := ?_) (hg := gd1)
  refine nt rfl _ rfl ?_ (hg := gd1)
  refine pk rfl rfl ?_
  refine ⟨by kernel_rfl, ?_⟩
  refine nx (sl 1 rfl (sl 2 rfl (sl 3 rfl (sl 7 rfl (sl 8 rfl (sl 72 rfl sn)))))) (el 10 rfl (el 117 rfl (el 216 rfl en))) ?_
  refine tri_false rfl rfl ?_
  refine tri_skip ?_
  refine nx (sl 1 rfl (sl 2 rfl (sl 3 rfl (sl 7 rfl (sl 8 rfl sn))))) (el 10 rfl (el 117 rfl (el 216 rfl en))) ?_
  refine tri_seq ?_
  refine tri_seq ?_
  refine tri_reg mixed hcx ?_ _ _
  refine ld rfl rfl tyG rfl ?_
  refine mv rfl ?_
  refine mv rfl ?_
  refine ca rfl (h := law_place (q := true) ⟨fun _ => ⟨by omega, by omega, by omega⟩, fun _ => rfl⟩) (hn := ?_)
  refine nt rfl _ rfl ?_
  refine ⟨by kernel_rfl, ?_⟩
  refine nx (sl 1 rfl (sl 2 rfl (sl 3 rfl (sl 7 rfl (sl 8 rfl (sl 77 rfl sn)))))) (el 10 rfl (el 117 rfl (el 216 rfl en))) ?_
  refine tri_false rfl rfl ?_
  refine tri_skip ?_
  refine nx (sl 1 rfl (sl 2 rfl (sl 3 rfl (sl 7 rfl (sl 8 rfl sn))))) (el 10 rfl (el 117 rfl (el 216 rfl en))) ?_
  refine tri_seq ?_
  refine tri_reg mixed hcx ?_ _ _
  refine mv rfl ?_
  refine ceq rfl rfl (decide_eq_true (by omega)) ?_
  refine mv rfl ?_
  refine ld rfl rfl tyQ rfl ?_ (hg := gd1)
  refine ld rfl rfl tyG rfl ?_ (hg := gd1)
  refine mv rfl ?_ (hg := gd1)
  refine mv rfl ?_ (hg := gd1)
  refine ca rfl (h := r05_Mu hk hLl hG hi hj) (hn := ?_) (hg := gd1)
  refine ca rfl (h := law_same (by omega) (by omega)) (hn := ?_) (hg := gd1)
  refine pk rfl rfl ?_
  refine mv rfl ?_
  refine ca rfl (h := law_awake) (hn := ?_) (hg := gd1)
  refine pk rfl rfl ?_
  refine asg rfl ?_
  refine ⟨by kernel_rfl, ?_⟩
  refine nx (sl 6 rfl sn) (el 10 rfl (el 117 rfl (el 216 rfl en))) ?_
  refine tri_ret ?_
  repeat (first | refine pn_thenr ?_ | refine pn_blkr ?_)
  exact ret1 hcx rfl (rv_tmp rfl) (.refl _) en

/-- The law, of every data. -/
theorem parts_all {D : List Int} {L : List (List Int)} {k : Nat} {z y : Int} (hk : k ≤ 1073741824) (hLl : L.length ≤ 1048576) (hDl : D.length ≤ 1073741824) : Fn Try.prog 6 [T.G D L k, T.c (.int .i64 z), T.c (.int .i64 y)] [] [] [] (T.c (.bool true)) := by
  by_cases hG : GoodP D L
  · by_cases hz : 0 ≤ z ∧ z < (L.length : Int)
    · obtain ⟨i, rfl⟩ := Int.eq_ofNat_of_zero_le hz.1
      have hi : i < L.length := by omega
      by_cases hy : 0 ≤ y ∧ y ≤ (i : Int)
      · obtain ⟨j, rfl⟩ := Int.eq_ofNat_of_zero_le hy.1
        rcases Nat.lt_or_eq_of_le (show j ≤ i by omega) with hj | hj
        · exact parts_ok hk hLl hG hi hj
        · subst hj; exact parts_eq hk hLl hG hi
      · exact parts_place hk hLl hG hi hy
    · exact parts_out hk hLl hG hz
  · exact parts_no hk hLl hDl hG
end Go.Proofs.Ytbihfnjmdpbkgaa.V
