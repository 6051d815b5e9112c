/- The law of the squared lengths. -/
import Derived.Test.YtbihfnjmdpbkgaaKG
set_option linter.unusedVariables false
set_option linter.unusedSimpArgs false
set_option maxRecDepth 100000
namespace Go.Proofs.Ytbihfnjmdpbkgaa.V
open Go.RowKit Mt Nml
theorem g_Norm_no {D : List Int} {L : List (List Int)} {x : List Int} {k : Nat} (hk : k ≤ 1048576) (hLl : L.length ≤ 1048576) (hDl : D.length ≤ 1048576) (hxl0 : x.length ≤ 1048576) (hG : ¬ GoodP D L) : Fn Try.prog 66 [T.G D L k, T.l (cZi k) x] [] [] [] (T.tup [ZQ, T.c (.int .i64 51)]) := by
  refine fn_of Try.func66 rfl (by show 2 ≤ 100; decide) fun cx hcx => ?_
  refine tri_sub (sl 0 rfl (sl 1 rfl sn)) en ?_
  refine tri_seq ?_
  refine tri_reg mixed hcx ?_ _ _
  refine bxs 10 rfl ?_
  refine nw 11 zeQ ?_
  refine asg rfl ?_
  refine ⟨by kernel_rfl, ?_⟩
  refine nx (sl 1 rfl (sl 2 rfl (sl 4 rfl sn))) (el 10 rfl (el 11 rfl en)) ?_
  refine tri_seq ?_
  refine tri_seq ?_
  refine tri_reg mixed hcx ?_ _ _
  refine ld rfl rfl tyG rfl ?_
  refine ca rfl (h := g_good (q := false) ⟨fun h => (by cases h), fun h => absurd h hG⟩ (by omega) (by omega) (by omega)) (hn := ?_)
  refine nt rfl _ rfl ?_
  refine ⟨by kernel_rfl, ?_⟩
  refine nx (sl 1 rfl (sl 2 rfl (sl 4 rfl (sl 16 rfl sn)))) (el 10 rfl (el 11 rfl en)) ?_
  refine tri_true rfl rfl ?_
  refine tri_seq ?_
  refine tri_reg mixed hcx ?_ _ _
  refine bu stQ rfl ?_
  refine st rfl rfl rfl tyQ rfl ?_
  refine asg rfl ?_
  refine ⟨by kernel_rfl, ?_⟩
  refine nx (sl 4 rfl (sl 5 rfl sn)) (el 10 rfl (el 11 rfl en)) ?_
  refine tri_ret ?_
  repeat (first | refine pn_thenr ?_ | refine pn_blkr ?_)
  exact ret2 hcx rfl (rv_cell (c' := cx) (n := 0) rfl rfl tyQ rfl) (rv_tmp rfl) (.refl _) en

theorem g_Norm_shape {D : List Int} {L : List (List Int)} {x : List Int} {k : Nat} (hk : k ≤ 1048576) (hLl : L.length ≤ 1048576) (hDl : D.length ≤ 1048576) (hxl0 : x.length ≤ 1048576) (hG : GoodP D L) (hx : x.length ≠ L.length) : Fn Try.prog 66 [T.G D L k, T.l (cZi k) x] [] [] [] (T.tup [ZQ, T.c (.int .i64 8)]) := by
  refine fn_of Try.func66 rfl (by show 2 ≤ 100; decide) fun cx hcx => ?_
  refine tri_sub (sl 0 rfl (sl 1 rfl sn)) en ?_
  refine tri_seq ?_
  refine tri_reg mixed hcx ?_ _ _
  refine bxs 10 rfl ?_
  refine nw 11 zeQ ?_
  refine asg rfl ?_
  refine ⟨by kernel_rfl, ?_⟩
  refine nx (sl 1 rfl (sl 2 rfl (sl 4 rfl sn))) (el 10 rfl (el 11 rfl en)) ?_
  refine tri_seq ?_
  refine tri_seq ?_
  refine tri_reg mixed hcx ?_ _ _
  refine ld rfl rfl tyG rfl ?_
  refine ca rfl (h := g_good (q := true) ⟨fun _ => hG, fun _ => rfl⟩ (by omega) (by omega) (by omega)) (hn := ?_)
  refine nt rfl _ rfl ?_
  refine ⟨by kernel_rfl, ?_⟩
  refine nx (sl 1 rfl (sl 2 rfl (sl 4 rfl (sl 16 rfl sn)))) (el 10 rfl (el 11 rfl en)) ?_
  refine tri_false rfl rfl ?_
  refine tri_skip ?_
  refine nx (sl 1 rfl (sl 2 rfl (sl 4 rfl sn))) (el 10 rfl (el 11 rfl en)) ?_
  refine tri_seq ?_
  refine tri_seq ?_
  refine tri_reg mixed hcx ?_ _ _
  refine mv rfl ?_
  refine ln slZs rfl ?_
  refine fa rfl fL 1 ?_
  refine ld rfl rfl tyZss rfl ?_
  refine ln slZss rfl ?_
  refine cne rfl rfl (decide_eq_true (by omega)) ?_
  refine ⟨by kernel_rfl, ?_⟩
  refine nx (sl 1 rfl (sl 2 rfl (sl 4 rfl (sl 23 rfl sn)))) (el 10 rfl (el 11 rfl en)) ?_
  refine tri_true rfl rfl ?_
  refine tri_seq ?_
  refine tri_reg mixed hcx ?_ _ _
  refine bu stQ rfl ?_
  refine st rfl rfl rfl tyQ rfl ?_
  refine asg rfl ?_
  refine ⟨by kernel_rfl, ?_⟩
  refine nx (sl 4 rfl (sl 5 rfl sn)) (el 10 rfl (el 11 rfl en)) ?_
  refine tri_ret ?_
  repeat (first | refine pn_thenr ?_ | refine pn_blkr ?_)
  exact ret2 hcx rfl (rv_cell (c' := cx) (n := 0) rfl rfl tyQ rfl) (rv_tmp rfl) (.refl _) en

theorem norms_no {D : List Int} {L : List (List Int)} {x : List Int} {k : Nat} (hk : k ≤ 1048576) (hLl : L.length ≤ 1048576) (hDl : D.length ≤ 1048576) (hxl0 : x.length ≤ 1048576) (hG : ¬ GoodP D L) : Fn Try.prog 11 [T.G D L k, T.l (cZi k) x] [] [] [] (T.c (.bool true)) := by
  refine fn_of Try.func11 rfl (by show 2 ≤ 54; decide) fun cx hcx => ?_
  refine tri_sub (sl 0 rfl (sl 1 rfl sn)) en ?_
  have hzq := zq0
  refine tri_seq ?_
  refine tri_reg mixed hcx ?_ _ _
  refine bxs 10 rfl ?_
  refine asg rfl ?_
  refine ⟨by kernel_rfl, ?_⟩
  refine nx (sl 1 rfl (sl 2 rfl sn)) (el 10 rfl en) ?_
  refine tri_seq ?_
  refine tri_reg mixed hcx ?_ _ _
  refine ld rfl rfl tyG rfl ?_
  refine mv rfl ?_
  refine ca rfl (h := g_Norm_no hk hLl hDl hxl0 hG) (hn := ?_)
  refine mv rfl ?_
  refine ex rfl rfl ?_
  refine ex rfl rfl ?_
  refine nw 116 zeQ ?_
  refine st rfl rfl rfl tyQ rfl ?_
  refine asg rfl ?_
  refine ⟨by kernel_rfl, ?_⟩
  refine nx (sl 1 rfl (sl 2 rfl (sl 5 rfl (sl 6 rfl sn)))) (el 10 rfl (el 116 rfl en)) ?_
  refine tri_seq ?_
  refine tri_seq ?_
  refine tri_reg mixed hcx ?_ _ _
  refine ld rfl rfl tyG rfl ?_
  refine ca rfl (h := r05_Good (q := false) ⟨fun h => (by cases h), fun h => absurd h hG⟩ (by omega) (by omega) (by omega)) (hn := ?_)
  refine nt rfl _ rfl ?_
  refine ⟨by kernel_rfl, ?_⟩
  refine nx (sl 1 rfl (sl 2 rfl (sl 5 rfl (sl 6 rfl (sl 15 rfl sn))))) (el 10 rfl (el 116 rfl en)) ?_
  refine tri_true rfl rfl ?_
  refine tri_seq ?_
  refine tri_reg mixed hcx ?_ _ _
  refine mv rfl ?_
  refine ceq rfl rfl (decide_eq_true (by omega)) ?_
  refine mv rfl ?_
  refine ld rfl rfl tyQ rfl ?_ (hg := gd1)
  refine bu stQ rfl ?_ (hg := gd1)
  refine ca rfl (h := law_same (by omega) (by omega)) (hn := ?_) (hg := gd1)
  refine pk rfl rfl ?_
  refine mv rfl ?_
  refine ca rfl (h := law_awake) (hn := ?_) (hg := gd1)
  refine pk rfl rfl ?_
  refine asg rfl ?_
  refine ⟨by kernel_rfl, ?_⟩
  refine nx (sl 4 rfl sn) (el 10 rfl (el 116 rfl en)) ?_
  refine tri_ret ?_
  repeat (first | refine pn_thenr ?_ | refine pn_blkr ?_)
  exact ret1 hcx rfl (rv_tmp rfl) (.refl _) en

theorem norms_shape {D : List Int} {L : List (List Int)} {x : List Int} {k : Nat} (hk : k ≤ 1048576) (hLl : L.length ≤ 1048576) (hDl : D.length ≤ 1048576) (hxl0 : x.length ≤ 1048576) (hG : GoodP D L) (hx : x.length ≠ L.length) : Fn Try.prog 11 [T.G D L k, T.l (cZi k) x] [] [] [] (T.c (.bool true)) := by
  refine fn_of Try.func11 rfl (by show 2 ≤ 54; decide) fun cx hcx => ?_
  refine tri_sub (sl 0 rfl (sl 1 rfl sn)) en ?_
  have hzq := zq0
  refine tri_seq ?_
  refine tri_reg mixed hcx ?_ _ _
  refine bxs 10 rfl ?_
  refine asg rfl ?_
  refine ⟨by kernel_rfl, ?_⟩
  refine nx (sl 1 rfl (sl 2 rfl sn)) (el 10 rfl en) ?_
  refine tri_seq ?_
  refine tri_reg mixed hcx ?_ _ _
  refine ld rfl rfl tyG rfl ?_
  refine mv rfl ?_
  refine ca rfl (h := g_Norm_shape hk hLl hDl hxl0 hG hx) (hn := ?_)
  refine mv rfl ?_
  refine ex rfl rfl ?_
  refine ex rfl rfl ?_
  refine nw 116 zeQ ?_
  refine st rfl rfl rfl tyQ rfl ?_
  refine asg rfl ?_
  refine ⟨by kernel_rfl, ?_⟩
  refine nx (sl 1 rfl (sl 2 rfl (sl 5 rfl (sl 6 rfl sn)))) (el 10 rfl (el 116 rfl en)) ?_
  refine tri_seq ?_
  refine tri_seq ?_
  refine tri_reg mixed hcx ?_ _ _
  refine ld rfl rfl tyG rfl ?_
  refine ca rfl (h := r05_Good (q := true) ⟨fun _ => hG, fun _ => rfl⟩ (by omega) (by omega) (by omega)) (hn := ?_)
  refine nt rfl _ rfl ?_
  refine ⟨by kernel_rfl, ?_⟩
  refine nx (sl 1 rfl (sl 2 rfl (sl 5 rfl (sl 6 rfl (sl 15 rfl sn))))) (el 10 rfl (el 116 rfl en)) ?_
  refine tri_false rfl rfl ?_
  refine tri_skip ?_
  refine nx (sl 1 rfl (sl 2 rfl (sl 5 rfl (sl 6 rfl sn)))) (el 10 rfl (el 116 rfl en)) ?_
  refine tri_seq ?_
  refine tri_seq ?_
  refine tri_reg mixed hcx ?_ _ _
  refine mv rfl ?_
  refine ln slZs rfl ?_
  refine fa rfl fL 1 ?_
  refine ld rfl rfl tyZss rfl ?_
  refine ln slZss rfl ?_
  refine cne rfl rfl (decide_eq_true (by omega)) ?_
  refine ⟨by kernel_rfl, ?_⟩
  refine nx (sl 1 rfl (sl 2 rfl (sl 5 rfl (sl 6 rfl (sl 31 rfl sn))))) (el 10 rfl (el 116 rfl en)) ?_
  refine tri_true rfl rfl ?_
  refine tri_seq ?_
  refine tri_reg mixed hcx ?_ _ _
  refine mv rfl ?_
  refine ceq rfl rfl (decide_eq_true (by omega)) ?_
  refine mv rfl ?_
  refine ld rfl rfl tyQ rfl ?_ (hg := gd1)
  refine bu stQ rfl ?_ (hg := gd1)
  refine ca rfl (h := law_same (by omega) (by omega)) (hn := ?_) (hg := gd1)
  refine pk rfl rfl ?_
  refine mv rfl ?_
  refine ca rfl (h := law_awake) (hn := ?_) (hg := gd1)
  refine pk rfl rfl ?_
  refine asg rfl ?_
  refine ⟨by kernel_rfl, ?_⟩
  refine nx (sl 4 rfl sn) (el 10 rfl (el 116 rfl en)) ?_
  refine tri_ret ?_
  repeat (first | refine pn_thenr ?_ | refine pn_blkr ?_)
  exact ret1 hcx rfl (rv_tmp rfl) (.refl _) en

theorem norms_ok {D : List Int} {L : List (List Int)} {x : List Int} {k : Nat} (hk : k ≤ 1048576) (hLl : L.length ≤ 1048576) (hDl : D.length ≤ 1048576) (hxl0 : x.length ≤ 1048576) {SB : Nat} (hG : GoodP D L) (hxl : x.length = L.length) (hn : L.length ≤ 2048) (hSB : L.length * (k + k + 1) + (2 * (k + k + L.length) + 1) ≤ SB) (hSB2 : SB ≤ 8589934592) (hSB0 : 4 ≤ SB) : Fn Try.prog 11 [T.G D L k, T.l (cZi k) x] [] [] [] (T.c (.bool true)) := by
  refine fn_of Try.func11 rfl (by show 2 ≤ 54; decide) fun cx hcx => ?_
  refine tri_sub (sl 0 rfl (sl 1 rfl sn)) en ?_
  refine tri_seq ?_
  refine tri_reg mixed hcx ?_ _ _
  refine bxs 10 rfl ?_
  refine asg rfl ?_
  refine ⟨by kernel_rfl, ?_⟩
  refine nx (sl 1 rfl (sl 2 rfl sn)) (el 10 rfl en) ?_
  refine tri_seq ?_
  refine tri_reg mixed hcx ?_ _ _
  refine ld rfl rfl tyG rfl ?_
  refine mv rfl ?_
  refine ca rfl (h := g_Norm hk hG hxl hn hSB hSB2 hSB0) (hn := ?_)
  refine mv rfl ?_
  refine ex rfl rfl ?_
  refine ex rfl rfl ?_
  refine nw 116 zeQ ?_
  refine st rfl rfl rfl tyQ rfl ?_
  refine asg rfl ?_
  refine ⟨by kernel_rfl, ?_⟩
  refine nx (sl 1 rfl (sl 2 rfl (sl 5 rfl (sl 6 rfl sn)))) (el 10 rfl (el 116 rfl en)) ?_
  refine tri_seq ?_
  refine tri_seq ?_
  refine tri_reg mixed hcx ?_ _ _
  refine ld rfl rfl tyG rfl ?_
  refine ca rfl (h := r05_Good (q := true) ⟨fun _ => hG, fun _ => rfl⟩ (by omega) (by omega) (by omega)) (hn := ?_)
  refine nt rfl _ rfl ?_
  refine ⟨by kernel_rfl, ?_⟩
  refine nx (sl 1 rfl (sl 2 rfl (sl 5 rfl (sl 6 rfl (sl 15 rfl sn))))) (el 10 rfl (el 116 rfl en)) ?_
  refine tri_false rfl rfl ?_
  refine tri_skip ?_
  refine nx (sl 1 rfl (sl 2 rfl (sl 5 rfl (sl 6 rfl sn)))) (el 10 rfl (el 116 rfl en)) ?_
  refine tri_seq ?_
  refine tri_seq ?_
  refine tri_reg mixed hcx ?_ _ _
  refine mv rfl ?_
  refine ln slZs rfl ?_
  refine fa rfl fL 1 ?_
  refine ld rfl rfl tyZss rfl ?_
  refine ln slZss rfl ?_
  refine cne rfl rfl (decide_eq_false (by omega)) ?_
  refine ⟨by kernel_rfl, ?_⟩
  refine nx (sl 1 rfl (sl 2 rfl (sl 5 rfl (sl 6 rfl (sl 31 rfl sn))))) (el 10 rfl (el 116 rfl en)) ?_
  refine tri_false rfl rfl ?_
  refine tri_skip ?_
  refine nx (sl 1 rfl (sl 2 rfl (sl 5 rfl (sl 6 rfl sn)))) (el 10 rfl (el 116 rfl en)) ?_
  refine tri_seq ?_
  refine tri_reg mixed hcx ?_ _ _
  refine mv rfl ?_
  refine ceq rfl rfl (decide_eq_true (by omega)) ?_
  refine mv rfl ?_
  refine ld rfl rfl tyQ rfl ?_ (hg := gd1)
  refine ld rfl rfl tyG rfl ?_ (hg := gd1)
  refine mv rfl ?_ (hg := gd1)
  refine ca rfl (h := r05_Norm hk hG hxl hn hSB hSB2 hSB0) (hn := ?_) (hg := gd1)
  refine ca rfl (h := law_same (by omega) (by omega)) (hn := ?_) (hg := gd1)
  refine pk rfl rfl ?_
  refine mv rfl ?_
  refine ca rfl (h := law_awake) (hn := ?_) (hg := gd1)
  refine pk rfl rfl ?_
  refine asg rfl ?_
  refine ⟨by kernel_rfl, ?_⟩
  refine nx (sl 4 rfl sn) (el 10 rfl (el 116 rfl en)) ?_
  refine tri_ret ?_
  repeat (first | refine pn_thenr ?_ | refine pn_blkr ?_)
  exact ret1 hcx rfl (rv_tmp rfl) (.refl _) en

/-- The law, of every data and numbers. -/
theorem norms_all {D : List Int} {L : List (List Int)} {x : List Int} {k : Nat} (hk : k ≤ 1048576) (hLl : L.length ≤ 1048576) (hDl : D.length ≤ 1048576) (hxl0 : x.length ≤ 1048576) (hn : GoodP D L → L.length ≤ 2048) : Fn Try.prog 11 [T.G D L k, T.l (cZi k) x] [] [] [] (T.c (.bool true)) := by
  by_cases hG : GoodP D L
  · by_cases hx : x.length = L.length
    · have hn' := hn hG
      have h1 : L.length * (k + k + 1) ≤ 2048 * 2097153 := Nat.mul_le_mul hn' (by omega)
      exact norms_ok (SB := L.length * (k + k + 1) + (2 * (k + k + L.length) + 1) + 4) hk hLl hDl hxl0 hG hx hn' (by omega) (by omega) (by omega)
    · exact norms_shape hk hLl hDl hxl0 hG hx
  · exact norms_no hk hLl hDl hxl0 hG
end Go.Proofs.Ytbihfnjmdpbkgaa.V
