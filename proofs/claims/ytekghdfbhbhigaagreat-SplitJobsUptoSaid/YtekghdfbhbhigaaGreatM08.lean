/- A tree cut into jobs: the law. -/
import Derived.Test.YtekghdfbhbhigaaGreatM07
set_option linter.unusedVariables false
set_option linter.unusedSimpArgs false
set_option maxRecDepth 100000
namespace Go.Proofs.YtekghdfbhbhigaaGreat.V
open Go.RowKit Mt Nml
theorem jr_out {k : Nat} {d l : List (List Int)} : (JRes k (some (d, l))).le (T.tup [T.l (cL (cZ k)) d, T.l (cJ k) l, T.c (.int .i64 0)]) := fun _ _ _ h => h
theorem jr_out0 {k : Nat} : (JRes k none).le (T.tup [T.c (.slice none 0 0), T.c (.slice none 0 0), T.c (.int .i64 2)]) := fun _ _ _ h => h
theorem jrr_out {k : Nat} {d l : List (List Int)} : (JResR k (some (d, l))).le (T.tup [T.l (cL (cZ k)) d, T.l (cL (cZ k)) l, T.c (.int .i64 0)]) := fun _ _ _ h => h
theorem jrr_out0 {k : Nat} : (JResR k none).le (T.tup [T.c (.slice none 0 0), T.c (.slice none 0 0), T.c (.int .i64 2)]) := fun _ _ _ h => h
/-- How large lists of jobs get. -/
theorem trace_b {D : List Int} {L : List (List Int)} {ts : List (Int × Int)} {n k : Nat} {R : Rat} {many N : Nat} {dd ll : Nat → List (List Int)} (hmany : many ≤ 4096) (h0 : dd 0 = []) (h1 : ll 0 = [[]]) (hst : ∀ j, j < N → Stp D L ts n k R many (dd j) (ll j) (dd (j + 1)) (ll (j + 1))) : ∀ j, j ≤ N → ((ll j).length ≤ 100000 ∧ ∀ q ∈ ll j, q.length ≤ n) ∧ (dd j).length ≤ 100001 ∧ ∀ q ∈ dd j, q.length ≤ n
  | 0, _ => by
    rw [h0, h1]
    exact ⟨⟨by decide, fun q hq => by rw [List.mem_singleton.1 hq]; exact Nat.zero_le _⟩, by decide, fun q hq => by cases hq⟩
  | j + 1, hj => by
    obtain ⟨⟨a1, a2⟩, a3, a4⟩ := trace_b hmany h0 h1 hst j (by omega)
    obtain ⟨i, m, hc, hm, hd, hl⟩ := hst j (by omega)
    have hmem : (ll j).getD i [] ∈ ll j := getD_mem' hc.hi
    rw [hd, hl]
    refine ⟨⟨?_, fun q hq => ?_⟩, ?_, fun q hq => ?_⟩
    · have := hc.lt; have := hc.hi
      rw [List.length_append, List.length_append, List.length_take, List.length_drop, kdL_len]
      omega
    · rcases List.mem_append.1 hq with hq | hq
      · rcases List.mem_append.1 hq with hq | hq
        · exact a2 q (List.mem_of_mem_take hq)
        · exact a2 q (List.mem_of_mem_drop hq)
      · unfold kdL at hq
        obtain ⟨e, _, rfl⟩ := List.mem_map.1 hq
        have := hc.ho
        rw [List.length_append]
        show _ + 1 ≤ n
        omega
    · have := hc.dl
      split
      · omega
      · simp; omega
    · split at hq
      · exact a4 q hq
      · rcases List.mem_append.1 hq with hq | hq
        · exact a4 q hq
        · rw [List.mem_singleton.1 hq]; have := hc.ho; omega
theorem len_at {l : List (List Int)} {n i : Nat} (h : ∀ q ∈ l, q.length ≤ n) (hn : n ≤ 1048576) : i < l.length → (l.getD i []).length ≤ 1048576 := fun hi => Nat.le_trans (h _ (getD_mem' hi)) hn

theorem l13_whole {z : Int} {k l : Nat} (hk : k ≤ 17592186044416) : Fn Tryz.prog 86 [T.Z z k, T.Z z l] [] [] [] (T.c (.bool true)) := by
  refine fn_of Tryz.func86 rfl (by show 2 ≤ 38; decide) fun cx hcx => ?_
  refine tri_sub (sl 0 rfl (sl 1 rfl sn)) en ?_
  refine tri_z 0 rfl fun hz => ?_
  have hzl : (dig z.natAbs).length ≤ k := hz
  refine tri_seq ?_
  refine tri_reg mixed hcx ?_ _ _
  refine bxs 10 rfl ?_
  refine bxs 11 rfl ?_
  refine asg rfl ?_
  refine ⟨by kernel_rfl, ?_⟩
  refine nx (sl 2 rfl (sl 3 rfl sn)) (el 10 rfl (el 11 rfl en)) ?_
  refine tri_seq ?_
  refine tri_seq ?_
  refine tri_reg mixed hcx ?_ _ _
  refine fa rfl fNeg 0 ?_
  refine ld rfl rfl tyB rfl ?_
  refine fa rfl fNeg 0 ?_
  refine ld rfl rfl tyB rfl ?_
  refine neb (q := false) rfl rfl (by simp) ?_
  refine mv rfl ?_
  refine fa rfl fMag 1 ?_ (hg := gd1)
  refine ld rfl rfl tyLs rfl ?_ (hg := gd1)
  refine ln slLs rfl ?_ (hg := gd1)
  refine fa rfl fMag 1 ?_ (hg := gd1)
  refine ld rfl rfl tyLs rfl ?_ (hg := gd1)
  refine ln slLs rfl ?_ (hg := gd1)
  refine cne rfl rfl (decide_eq_false (by omega)) ?_ (hg := gd1)
  refine pk rfl rfl ?_
  refine ⟨by kernel_rfl, ?_⟩
  refine nx (sl 2 rfl (sl 3 rfl (sl 19 rfl sn))) (el 10 rfl (el 11 rfl en)) ?_
  refine tri_false rfl rfl ?_
  refine tri_skip ?_
  refine nx (sl 2 rfl (sl 3 rfl sn)) (el 10 rfl (el 11 rfl en)) ?_
  refine tri_seq ?_
  refine tri_seq ?_
  refine tri_reg mixed hcx ?_ _ _
  refine asg rfl ?_
  refine ⟨by kernel_rfl, ?_⟩
  refine nx (sl 2 rfl (sl 3 rfl (sl 5 rfl sn))) (el 10 rfl (el 11 rfl en)) ?_
  refine tri_block ?_
  refine tri_loop (ι := Nat) (fun i => [(2, T.p 10 0), (3, T.p 11 0), (5, T.c (.int .i64 (i : Int)))]) (fun i => [(10, some (Ent.box 32 [T.c (.bool (decide (z < 0))), T.l cU (dig (z).natAbs)])), (11, some (Ent.box 32 [T.c (.bool (decide (z < 0))), T.l cU (dig (z).natAbs)]))]) (fun i => (dig z.natAbs).length - i) (fun i => (i ≤ (dig z.natAbs).length)) 0 (Nat.zero_le _) (sl 2 rfl (sl 3 rfl (sl 5 rfl sn))) (el 10 rfl (el 11 rfl en)) ?_
  rintro i hi
  refine tri_sub (sl 2 rfl (sl 3 rfl (sl 5 rfl sn))) (el 10 rfl (el 11 rfl en)) ?_
  refine tri_seq ?_
  refine tri_seq ?_
  refine tri_reg mixed hcx ?_ _ _
  refine mv rfl ?_
  refine fa rfl fMag 1 ?_
  refine ld rfl rfl tyLs rfl ?_
  refine ln slLs rfl ?_
  refine clt rfl rfl rfl ?_
  refine ⟨by kernel_rfl, ?_⟩
  refine nx (sl 2 rfl (sl 3 rfl (sl 5 rfl (sl 24 rfl sn)))) (el 10 rfl (el 11 rfl en)) ?_
  refine tri_if rfl (fun hc => ?_) (fun hc => ?_)
  · refine tri_skip ?_
    refine nx (sl 2 rfl (sl 3 rfl (sl 5 rfl sn))) (el 10 rfl (el 11 rfl en)) ?_
    refine tri_seq ?_
    refine tri_block ?_
    refine tri_seq ?_
    refine tri_reg mixed hcx ?_ _ _
    refine fa rfl fMag 1 ?_
    refine ld rfl rfl tyLs rfl ?_
    refine mv rfl ?_
    refine ix rfl rfl slLs ⟨rfl, by omega⟩ ?_
    refine lf rfl tyU32 ?_
    refine fa rfl fMag 1 ?_
    refine ld rfl rfl tyLs rfl ?_
    refine mv rfl ?_
    refine ix rfl rfl slLs ⟨rfl, by omega⟩ ?_
    refine lf rfl tyU32 ?_
    refine cne rfl rfl (decide_eq_false (by omega)) ?_
    refine ⟨by kernel_rfl, ?_⟩
    refine nx (sl 2 rfl (sl 3 rfl (sl 5 rfl (sl 37 rfl sn)))) (el 10 rfl (el 11 rfl en)) ?_
    refine tri_false rfl rfl ?_
    refine tri_skip ?_
    refine pn_blk ?_
    refine nx (sl 2 rfl (sl 3 rfl (sl 5 rfl sn))) (el 10 rfl (el 11 rfl en)) ?_
    refine tri_reg mixed hcx ?_ _ _
    refine mv rfl ?_
    refine ad (((i + 1 : Nat) : Int)) rfl rfl rfl (by omega) ?_
    refine asg rfl ?_
    refine ⟨by kernel_rfl, ?_⟩
    exact pn_back (i + 1) (by first | omega | (dsimp only; omega)) (by omega) (sl 2 rfl (sl 3 rfl (sl 5 rfl sn))) (el 10 rfl (el 11 rfl en))
  · refine tri_exit ?_
    repeat (first | refine pn_then ?_ | refine pn_oth (by decide) ?_)
    refine pn_ex ?_
    refine nx sn (el 10 rfl (el 11 rfl en)) ?_
    refine tri_seq ?_
    refine tri_reg mixed hcx ?_ _ _
    refine asg rfl ?_
    refine ⟨by kernel_rfl, ?_⟩
    refine nx (sl 4 rfl sn) (el 10 rfl (el 11 rfl en)) ?_
    refine tri_ret ?_
    repeat (first | refine pn_thenr ?_ | refine pn_blkr ?_)
    exact ret1 hcx rfl (rv_tmp rfl) (.refl _) en

theorem l13_wholes {l : List Int} {k k2 : Nat} (hl : l.length ≤ 1048576) (hk : k ≤ 17592186044416) (hk2 : k2 ≤ 17592186044416) : Fn Tryz.prog 36 [T.l (cZ k) l, T.l (cZ k2) l] [] [] [] (T.c (.bool true)) := by
  refine fn_of Tryz.func36 rfl (by show 2 ≤ 28; decide) fun cx hcx => ?_
  refine tri_sub (sl 0 rfl (sl 1 rfl sn)) en ?_
  refine tri_seq ?_
  refine tri_reg mixed hcx ?_ _ _
  refine asg rfl ?_
  refine ⟨by kernel_rfl, ?_⟩
  refine nx (sl 0 rfl (sl 1 rfl sn)) en ?_
  refine tri_seq ?_
  refine tri_seq ?_
  refine tri_reg mixed hcx ?_ _ _
  refine mv rfl ?_
  refine ln slZs rfl ?_
  refine mv rfl ?_
  refine ln slZs rfl ?_
  refine cne rfl rfl (decide_eq_false (by omega)) ?_
  refine ⟨by kernel_rfl, ?_⟩
  refine nx (sl 0 rfl (sl 1 rfl (sl 10 rfl sn))) en ?_
  refine tri_false rfl rfl ?_
  refine tri_skip ?_
  refine nx (sl 0 rfl (sl 1 rfl sn)) en ?_
  refine tri_seq ?_
  refine tri_seq ?_
  refine tri_reg mixed hcx ?_ _ _
  refine asg rfl ?_
  refine ⟨by kernel_rfl, ?_⟩
  refine nx (sl 0 rfl (sl 1 rfl (sl 5 rfl sn))) en ?_
  refine tri_block ?_
  refine tri_loop (ι := Nat) (fun i => [(0, T.l (cZ k) l), (1, T.l (cZ k2) l), (5, T.c (.int .i64 (i : Int)))]) (fun i => []) (fun i => l.length - i) (fun i => (i ≤ l.length)) 0 (Nat.zero_le _) (sl 0 rfl (sl 1 rfl (sl 5 rfl sn))) en ?_
  rintro i hi
  refine tri_sub (sl 0 rfl (sl 1 rfl (sl 5 rfl sn))) en ?_
  refine tri_seq ?_
  refine tri_seq ?_
  refine tri_reg mixed hcx ?_ _ _
  refine mv rfl ?_
  refine mv rfl ?_
  refine ln slZs rfl ?_
  refine clt rfl rfl rfl ?_
  refine ⟨by kernel_rfl, ?_⟩
  refine nx (sl 0 rfl (sl 1 rfl (sl 5 rfl (sl 14 rfl sn)))) en ?_
  refine tri_if rfl (fun hc => ?_) (fun hc => ?_)
  · refine tri_skip ?_
    refine nx (sl 0 rfl (sl 1 rfl (sl 5 rfl sn))) en ?_
    refine tri_seq ?_
    refine tri_block ?_
    refine tri_seq ?_
    refine tri_reg mixed hcx ?_ _ _
    refine mv rfl ?_
    refine mv rfl ?_
    refine ix rfl rfl slZs ⟨rfl, by omega⟩ ?_
    refine lf rfl tyZ ?_
    refine mv rfl ?_
    refine mv rfl ?_
    refine ix rfl rfl slZs ⟨rfl, by omega⟩ ?_
    refine lf rfl tyZ ?_
    refine ca rfl (h := r02_Norm (by omega)) (hn := ?_)
    refine ca rfl (h := l13_whole (by omega)) (hn := ?_)
    refine nt rfl _ rfl ?_
    refine ⟨by kernel_rfl, ?_⟩
    refine nx (sl 0 rfl (sl 1 rfl (sl 5 rfl (sl 27 rfl sn)))) en ?_
    refine tri_false rfl rfl ?_
    refine tri_skip ?_
    refine pn_blk ?_
    refine nx (sl 0 rfl (sl 1 rfl (sl 5 rfl sn))) en ?_
    refine tri_reg mixed hcx ?_ _ _
    refine mv rfl ?_
    refine ad (((i + 1 : Nat) : Int)) rfl rfl rfl (by omega) ?_
    refine asg rfl ?_
    refine ⟨by kernel_rfl, ?_⟩
    exact pn_back (i + 1) (by first | omega | (dsimp only; omega)) (by omega) (sl 0 rfl (sl 1 rfl (sl 5 rfl sn))) en
  · refine tri_exit ?_
    repeat (first | refine pn_then ?_ | refine pn_oth (by decide) ?_)
    refine pn_ex ?_
    refine nx sn en ?_
    refine tri_seq ?_
    refine tri_reg mixed hcx ?_ _ _
    refine asg rfl ?_
    refine ⟨by kernel_rfl, ?_⟩
    refine nx (sl 4 rfl sn) en ?_
    refine tri_ret ?_
    repeat (first | refine pn_thenr ?_ | refine pn_blkr ?_)
    exact ret1 hcx rfl (rv_tmp rfl) (.refl _) en

theorem l13_lists {l : List (List Int)} {k k2 : Nat} (hl : l.length ≤ 1048576) (hlr : ∀ i, i < l.length → (l.getD i []).length ≤ 1048576) (hk : k ≤ 17592186044416) (hk2 : k2 ≤ 17592186044416) : Fn Tryz.prog 35 [T.l (cL (cZ k)) l, T.l (cL (cZ k2)) l] [] [] [] (T.c (.bool true)) := by
  refine fn_of Tryz.func35 rfl (by show 2 ≤ 27; decide) fun cx hcx => ?_
  refine tri_sub (sl 0 rfl (sl 1 rfl sn)) en ?_
  refine tri_seq ?_
  refine tri_reg mixed hcx ?_ _ _
  refine asg rfl ?_
  refine ⟨by kernel_rfl, ?_⟩
  refine nx (sl 0 rfl (sl 1 rfl sn)) en ?_
  refine tri_seq ?_
  refine tri_seq ?_
  refine tri_reg mixed hcx ?_ _ _
  refine mv rfl ?_
  refine ln slZss rfl ?_
  refine mv rfl ?_
  refine ln slZss rfl ?_
  refine cne rfl rfl (decide_eq_false (by omega)) ?_
  refine ⟨by kernel_rfl, ?_⟩
  refine nx (sl 0 rfl (sl 1 rfl (sl 10 rfl sn))) en ?_
  refine tri_false rfl rfl ?_
  refine tri_skip ?_
  refine nx (sl 0 rfl (sl 1 rfl sn)) en ?_
  refine tri_seq ?_
  refine tri_seq ?_
  refine tri_reg mixed hcx ?_ _ _
  refine asg rfl ?_
  refine ⟨by kernel_rfl, ?_⟩
  refine nx (sl 0 rfl (sl 1 rfl (sl 5 rfl sn))) en ?_
  refine tri_block ?_
  refine tri_loop (ι := Nat) (fun i => [(0, T.l (cL (cZ k)) l), (1, T.l (cL (cZ k2)) l), (5, T.c (.int .i64 (i : Int)))]) (fun i => []) (fun i => l.length - i) (fun i => (i ≤ l.length)) 0 (Nat.zero_le _) (sl 0 rfl (sl 1 rfl (sl 5 rfl sn))) en ?_
  rintro i hi
  refine tri_sub (sl 0 rfl (sl 1 rfl (sl 5 rfl sn))) en ?_
  refine tri_seq ?_
  refine tri_seq ?_
  refine tri_reg mixed hcx ?_ _ _
  refine mv rfl ?_
  refine mv rfl ?_
  refine ln slZss rfl ?_
  refine clt rfl rfl rfl ?_
  refine ⟨by kernel_rfl, ?_⟩
  refine nx (sl 0 rfl (sl 1 rfl (sl 5 rfl (sl 14 rfl sn)))) en ?_
  refine tri_if rfl (fun hc => ?_) (fun hc => ?_)
  · refine tri_skip ?_
    refine nx (sl 0 rfl (sl 1 rfl (sl 5 rfl sn))) en ?_
    refine tri_seq ?_
    refine tri_block ?_
    refine tri_seq ?_
    refine tri_reg mixed hcx ?_ _ _
    refine mv rfl ?_
    refine mv rfl ?_
    refine ix rfl rfl slZss ⟨rfl, by omega⟩ ?_
    refine lf rfl tyZs ?_
    refine mv rfl ?_
    refine mv rfl ?_
    refine ix rfl rfl slZss ⟨rfl, by omega⟩ ?_
    refine lf rfl tyZs ?_
    refine ca rfl (h := l13_wholes (hlr i (by omega)) (by omega) (by omega)) (hn := ?_)
    refine nt rfl _ rfl ?_
    refine ⟨by kernel_rfl, ?_⟩
    refine nx (sl 0 rfl (sl 1 rfl (sl 5 rfl (sl 26 rfl sn)))) en ?_
    refine tri_false rfl rfl ?_
    refine tri_skip ?_
    refine pn_blk ?_
    refine nx (sl 0 rfl (sl 1 rfl (sl 5 rfl sn))) en ?_
    refine tri_reg mixed hcx ?_ _ _
    refine mv rfl ?_
    refine ad (((i + 1 : Nat) : Int)) rfl rfl rfl (by omega) ?_
    refine asg rfl ?_
    refine ⟨by kernel_rfl, ?_⟩
    exact pn_back (i + 1) (by first | omega | (dsimp only; omega)) (by omega) (sl 0 rfl (sl 1 rfl (sl 5 rfl sn))) en
  · refine tri_exit ?_
    repeat (first | refine pn_then ?_ | refine pn_oth (by decide) ?_)
    refine pn_ex ?_
    refine nx sn en ?_
    refine tri_seq ?_
    refine tri_reg mixed hcx ?_ _ _
    refine asg rfl ?_
    refine ⟨by kernel_rfl, ?_⟩
    refine nx (sl 4 rfl sn) en ?_
    refine tri_ret ?_
    repeat (first | refine pn_thenr ?_ | refine pn_blkr ?_)
    exact ret1 hcx rfl (rv_tmp rfl) (.refl _) en

theorem l13_n {z : Int} (h0 : -9223372036854775808 ≤ z) (h1 : z < 9223372036854775808) : Fn Tryz.prog 133 [T.c (.int .i64 z)] [] [] [] (T.Z z 2) := by
  refine fn_of Tryz.func133 rfl (by show 1 ≤ 5; decide) fun cx hcx => ?_
  refine tri_sub (sl 0 rfl sn) en ?_
  refine tri_seq ?_
  refine tri_reg mixed hcx ?_ _ _
  refine nw 10 zeZ ?_
  refine ⟨by kernel_rfl, ?_⟩
  refine nx (sl 0 rfl (sl 2 rfl sn)) (el 10 rfl en) ?_
  refine tri_seq ?_
  refine tri_reg mixed hcx ?_ _ _
  refine mv rfl ?_
  refine ca rfl (h := r02_Of h0 h1) (hn := ?_)
  refine st rfl rfl rfl tyZ rfl ?_
  refine ⟨by kernel_rfl, ?_⟩
  refine nx (sl 2 rfl sn) (el 10 rfl en) ?_
  refine tri_ret ?_
  repeat (first | refine pn_thenr ?_ | refine pn_blkr ?_)
  exact ret1 hcx rfl (rv_cell (c' := cx) (n := 0) rfl rfl tyZ rfl) (.refl _) en

theorem l13_small  : Fn Tryz.prog 84 [] [] [] [] (T.Tr [1, 1, 1] [[], [0]] [] 1 1 2) := by
  refine fn_of Tryz.func84 rfl (by show 0 ≤ 14; decide) fun cx hcx => ?_
  refine tri_sub sn en ?_
  refine tri_seq ?_
  refine tri_reg mixed hcx ?_ _ _
  refine nw 10 zeTr ?_
  refine ⟨by kernel_rfl, ?_⟩
  refine nx (sl 0 rfl sn) (el 10 rfl en) ?_
  refine tri_seq ?_
  refine tri_reg mixed hcx ?_ _ _
  refine ca rfl (h := l13_n (by decide) (by decide)) (hn := ?_)
  refine ca rfl (h := l13_n (by decide) (by decide)) (hn := ?_)
  refine ca rfl (h := l13_n (by decide) (by decide)) (hn := ?_)
  refine bs (c := cZ 2) (xs := [1, 1, 1]) slZs rfl ⟨.refl _, .refl _, .refl _, trivial⟩ ?_
  refine bs0 (cZ 2) slZs ?_
  refine ca rfl (h := l13_n (by decide) (by decide)) (hn := ?_)
  refine bs (c := cZ 2) (xs := [0]) slZs rfl ⟨.refl _, trivial⟩ ?_
  refine bs (c := cL (cZ 2)) (xs := [[], [0]]) slZss rfl ⟨.refl _, .refl _, trivial⟩ ?_
  refine bu stG rfl ?_
  refine ca rfl (h := l13_n (by decide) (by decide)) (hn := ?_)
  refine ca rfl (h := l13_n (by decide) (by decide)) (hn := ?_)
  refine bu stQ rfl ?_
  refine bu stTr rfl ?_
  refine sts rfl rfl rfl tyTr rfl ?_
  refine ⟨by kernel_rfl, ?_⟩
  refine nx (sl 0 rfl sn) (el 10 rfl en) ?_
  refine tri_ret ?_
  repeat (first | refine pn_thenr ?_ | refine pn_blkr ?_)
  exact ret1 hcx rfl (rv_cell (c' := cx) (n := 0) rfl rfl tyTr rfl) (tr_flat.trans (st_le ⟨IsL.le (c := cZi 2), IsL.le (c := cL (cZi 2)), nil_l _, z_zi _ _, z_zi _ _, trivial⟩)) en

theorem chk_kd {s : List Int} {m : Nat} (h : chk s s.length m = true) : Kd D0 L0 [] 2 2 (((1 : Int) : Rat) / ((1 : Int) : Rat)) s m := by
  have hj : ∀ j, j ≤ m → (-9 ≤ nth (ctT D0 L0 [] s (2 - 1) (2 - 1 - s.length) s.length) j ∧ nth (ctT D0 L0 [] s (2 - 1) (2 - 1 - s.length) s.length) j ≤ 9) ∧ (ptT D0 L0 [] (s ++ [nth (ctT D0 L0 [] s (2 - 1) (2 - 1 - s.length) s.length) j]) (2 - 1) (s.length + 1) ≤ ((1 : Int) : Rat) / ((1 : Int) : Rat) ↔ j < m) := fun j hj => by
    have := List.all_eq_true.1 h j (by simp; omega)
    simp only [Bool.and_eq_true, decide_eq_true_eq, beq_iff_eq] at this
    obtain ⟨⟨a, b⟩, c⟩ := this
    exact ⟨⟨a, b⟩, decide_eq_decide.1 c⟩
  exact ⟨fun j h => zl_of (by have := (hj j h).1; show -9223372036854775808 ≤ nth (ctT D0 L0 [] s (2 - 1) (2 - 1 - s.length) s.length) j; omega) (by have := (hj j h).1; show nth (ctT D0 L0 [] s (2 - 1) (2 - 1 - s.length) s.length) j < _; omega), fun j h => (hj j (by omega)).2.2 h, fun h => absurd ((hj m (Nat.le_refl _)).2.1 h) (Nat.lt_irrefl _)⟩
def sdd : Nat → List (List Int)
  | 0 => []
  | 1 => []
  | _ => [[0]]
def sll : Nat → List (List Int)
  | 0 => [[]]
  | 1 => [[0], [1], [-1]]
  | _ => [[1], [-1], [0, 0], [0, 1], [0, -1]]
theorem small_st : ∀ j, j < 2 → Stp D0 L0 [] 2 2 (((1 : Int) : Rat) / ((1 : Int) : Rat)) 4 (sdd j) (sll j) (sdd (j + 1)) (sll (j + 1)) := fun j hj => by
  match j, hj with
  | 0, _ => exact ⟨0, 3, ⟨by decide, by decide, by decide, fun j hj => absurd hj (Nat.not_lt_zero _), by unfold Wi; decide +kernel, chk_kd (by decide +kernel), by decide⟩, by decide, by decide +kernel, by decide +kernel⟩
  | 1, _ => exact ⟨0, 3, ⟨by decide, by decide, by decide, fun j hj => absurd hj (Nat.not_lt_zero _), by unfold Wi; decide +kernel, chk_kd (by decide +kernel), by decide⟩, by decide, by decide +kernel, by decide +kernel⟩

theorem sp_Jobs4 : Fn Tryz.prog 32 [T.Tr D0 L0 [] 1 1 2, T.c (.int .i64 4)] [] [] [] (T.tup [T.l (cL (cZ 2)) [[0]], T.l (cJ 2) [[1], [-1], [0, 0], [0, 1], [0, -1]], T.c (.int .i64 0)]) :=
  fn_out (sp_Jobs small_T (a := 1) (b := 1) (by decide) (by decide) (many := 4) (N := 2) (dd := sdd) (ll := sll) (by decide) (by decide) rfl rfl small_st (.inl ⟨by decide, rfl⟩)) jr_out

theorem l13_awake  : Fn Tryz.prog 33 [] [] [] [] (T.c (.bool true)) := by
  refine fn_of Tryz.func33 rfl (by show 0 ≤ 30; decide) fun cx hcx => ?_
  refine tri_sub sn en ?_
  refine tri_seq ?_
  refine tri_reg mixed hcx ?_ _ _
  refine asg rfl ?_
  refine ⟨by kernel_rfl, ?_⟩
  refine nx sn en ?_
  refine tri_seq ?_
  refine tri_reg mixed hcx ?_ _ _
  refine ca rfl (h := l13_small) (hn := ?_)
  refine ca rfl (h := sp_Jobs4) (hn := ?_)
  refine mv rfl ?_
  refine ex rfl rfl ?_
  refine ex rfl rfl ?_
  refine ex rfl rfl ?_
  refine asg rfl ?_
  refine asg rfl ?_
  refine asg rfl ?_
  refine ⟨by kernel_rfl, ?_⟩
  refine nx (sl 1 rfl (sl 2 rfl (sl 3 rfl sn))) en ?_
  refine tri_seq ?_
  refine tri_reg mixed hcx ?_ _ _
  refine mv rfl ?_
  refine ceq rfl rfl rfl ?_
  refine mv rfl ?_
  refine mv rfl ?_ (hg := gd1)
  refine ln slZss rfl ?_ (hg := gd1)
  refine ceq rfl rfl rfl ?_ (hg := gd1)
  refine pk rfl rfl ?_
  refine mv rfl ?_
  refine mv rfl ?_ (hg := gd1)
  refine ln slJbs rfl ?_ (hg := gd1)
  refine ceq rfl rfl rfl ?_ (hg := gd1)
  refine pk rfl rfl ?_
  refine mv rfl ?_
  refine mv rfl ?_ (hg := gd1)
  refine ix rfl rfl slJbs ⟨(rfl : _ = ((4 : Nat) : Int)), by decide⟩ ?_ (hg := gd1)
  refine ff rfl fJbR rfl ?_ (hg := gd1)
  refine lf rfl tyZs ?_ (hg := gd1)
  refine ln slZs rfl ?_ (hg := gd1)
  refine ceq rfl rfl rfl ?_ (hg := gd1)
  refine pk rfl rfl ?_
  refine asg rfl ?_
  refine ⟨by kernel_rfl, ?_⟩
  refine nx (sl 0 rfl sn) en ?_
  refine tri_ret ?_
  repeat (first | refine pn_thenr ?_ | refine pn_blkr ?_)
  exact ret1 hcx rfl (rv_tmp rfl) (.refl _) en

theorem sp_Jobs_e {D : List Int} {L : List (List Int)} {ts : List (Int × Int)} {a b many r : Int} {k : Nat} (hr : r ≠ 0) (hv : Fn Tryz.prog 79 [T.Tr D L ts a b k] [] [] [] (T.c (.int .i64 r))) : Fn Tryz.prog 32 [T.Tr D L ts a b k, T.c (.int .i64 many)] [] [] [] (T.tup [T.c (.slice none 0 0), T.c (.slice none 0 0), T.c (.int .i64 r)]) := by
  refine fn_of Tryz.func32 rfl (by show 2 ≤ 89; decide) fun cx hcx => ?_
  refine tri_sub (sl 0 rfl (sl 1 rfl sn)) en ?_
  refine tri_seq ?_
  refine tri_reg mixed hcx ?_ _ _
  refine bxs 10 rfl ?_
  refine asg rfl ?_
  refine asg rfl ?_
  refine asg rfl ?_
  refine ⟨by kernel_rfl, ?_⟩
  refine nx (sl 1 rfl (sl 2 rfl sn)) (el 10 rfl en) ?_
  refine tri_seq ?_
  refine tri_seq ?_
  refine tri_reg mixed hcx ?_ _ _
  refine ld rfl rfl tyTr rfl ?_
  refine ca rfl (h := hv) (hn := ?_)
  refine asg rfl ?_
  refine ⟨by kernel_rfl, ?_⟩
  refine nx (sl 1 rfl (sl 2 rfl (sl 7 rfl sn))) (el 10 rfl en) ?_
  refine tri_seq ?_
  refine tri_reg mixed hcx ?_ _ _
  refine mv rfl ?_
  refine cne rfl rfl (decide_eq_true hr) ?_
  refine ⟨by kernel_rfl, ?_⟩
  refine nx (sl 1 rfl (sl 2 rfl (sl 7 rfl (sl 20 rfl sn)))) (el 10 rfl en) ?_
  refine tri_true rfl rfl ?_
  refine tri_seq ?_
  refine tri_reg mixed hcx ?_ _ _
  refine mv rfl ?_
  refine asg rfl ?_
  refine asg rfl ?_
  refine asg rfl ?_
  refine ⟨by kernel_rfl, ?_⟩
  refine nx (sl 4 rfl (sl 5 rfl (sl 6 rfl sn))) (el 10 rfl en) ?_
  refine tri_ret ?_
  repeat (first | refine pn_thenr ?_ | refine pn_blkr ?_)
  exact ret3 hcx rfl (rv_tmp rfl) (rv_tmp rfl) (rv_tmp rfl) (.refl _) en

theorem sp_Jobs_arg {D : List Int} {L : List (List Int)} {ts : List (Int × Int)} {a b : Int} {n k : Nat} (h : TrS D L ts n k) (hb : 0 < b) (ha : 0 ≤ a) {many : Int} (hm : many < 1 ∨ 4096 < many) : Fn Tryz.prog 32 [T.Tr D L ts a b k, T.c (.int .i64 many)] [] [] [] (T.tup [T.c (.slice none 0 0), T.c (.slice none 0 0), T.c (.int .i64 1)]) := by
  refine fn_of Tryz.func32 rfl (by show 2 ≤ 89; decide) fun cx hcx => ?_
  refine tri_sub (sl 0 rfl (sl 1 rfl sn)) en ?_
  have hn12 := h.twelve
  have hkk := h.hk
  have hlL := h.len
  have hn0 := h.pos
  refine tri_seq ?_
  refine tri_reg mixed hcx ?_ _ _
  refine bxs 10 rfl ?_
  refine asg rfl ?_
  refine asg rfl ?_
  refine asg rfl ?_
  refine ⟨by kernel_rfl, ?_⟩
  refine nx (sl 1 rfl (sl 2 rfl sn)) (el 10 rfl en) ?_
  refine tri_seq ?_
  refine tri_seq ?_
  refine tri_reg mixed hcx ?_ _ _
  refine ld rfl rfl tyTr rfl ?_
  refine ca rfl (h := t_Valid h hb ha) (hn := ?_)
  refine asg rfl ?_
  refine ⟨by kernel_rfl, ?_⟩
  refine nx (sl 1 rfl (sl 2 rfl (sl 7 rfl sn))) (el 10 rfl en) ?_
  refine tri_seq ?_
  refine tri_reg mixed hcx ?_ _ _
  refine mv rfl ?_
  refine cne rfl rfl (decide_eq_false (by omega)) ?_
  refine ⟨by kernel_rfl, ?_⟩
  refine nx (sl 1 rfl (sl 2 rfl (sl 7 rfl (sl 20 rfl sn)))) (el 10 rfl en) ?_
  refine tri_false rfl rfl ?_
  refine tri_skip ?_
  refine nx (sl 1 rfl (sl 2 rfl sn)) (el 10 rfl en) ?_
  refine tri_seq ?_
  refine tri_seq ?_
  by_cases hneg : many < 1
  · refine tri_reg mixed hcx ?_ _ _
    refine mv rfl ?_
    refine clt rfl rfl (decide_eq_true (by omega)) ?_
    refine mv rfl ?_
    refine j_off rfl rfl rfl rfl ?_
    refine j_off rfl rfl rfl rfl ?_
    refine pk rfl rfl ?_
    refine ⟨by kernel_rfl, ?_⟩
    refine nx (sl 1 rfl (sl 2 rfl (sl 27 rfl sn))) (el 10 rfl en) ?_
    refine tri_true rfl rfl ?_
    refine tri_seq ?_
    refine tri_reg mixed hcx ?_ _ _
    refine asg rfl ?_
    refine asg rfl ?_
    refine asg rfl ?_
    refine ⟨by kernel_rfl, ?_⟩
    refine nx (sl 4 rfl (sl 5 rfl (sl 6 rfl sn))) (el 10 rfl en) ?_
    refine tri_ret ?_
    repeat (first | refine pn_thenr ?_ | refine pn_blkr ?_)
    exact ret3 hcx rfl (rv_tmp rfl) (rv_tmp rfl) (rv_tmp rfl) (.refl _) en
  · refine tri_reg mixed hcx ?_ _ _
    refine mv rfl ?_
    refine clt rfl rfl (decide_eq_false (by omega)) ?_
    refine mv rfl ?_
    refine mv rfl ?_ (hg := gd1)
    refine cgt rfl rfl (decide_eq_true (by omega)) ?_ (hg := gd1)
    refine pk rfl rfl ?_
    refine ⟨by kernel_rfl, ?_⟩
    refine nx (sl 1 rfl (sl 2 rfl (sl 27 rfl sn))) (el 10 rfl en) ?_
    refine tri_true rfl rfl ?_
    refine tri_seq ?_
    refine tri_reg mixed hcx ?_ _ _
    refine asg rfl ?_
    refine asg rfl ?_
    refine asg rfl ?_
    refine ⟨by kernel_rfl, ?_⟩
    refine nx (sl 4 rfl (sl 5 rfl (sl 6 rfl sn))) (el 10 rfl en) ?_
    refine tri_ret ?_
    repeat (first | refine pn_thenr ?_ | refine pn_blkr ?_)
    exact ret3 hcx rfl (rv_tmp rfl) (rv_tmp rfl) (rv_tmp rfl) (.refl _) en

theorem r13_Jobs_arg {D : List Int} {L : List (List Int)} {ts : List (Int × Int)} {a b many : Int} {k : Nat} (hm : many < 1 ∨ 4096 < many) : Fn Tryz.prog 34 [T.Tr D L ts a b k, T.c (.int .i64 many)] [] [] [] (T.tup [T.c (.slice none 0 0), T.c (.slice none 0 0), T.c (.int .i64 1)]) := by
  refine fn_of Tryz.func34 rfl (by show 2 ≤ 93; decide) fun cx hcx => ?_
  refine tri_sub (sl 0 rfl (sl 1 rfl sn)) en ?_
  refine tri_seq ?_
  refine tri_reg mixed hcx ?_ _ _
  refine bxs 10 rfl ?_
  refine asg rfl ?_
  refine asg rfl ?_
  refine asg rfl ?_
  refine ⟨by kernel_rfl, ?_⟩
  refine nx (sl 1 rfl (sl 2 rfl sn)) (el 10 rfl en) ?_
  refine tri_seq ?_
  refine tri_seq ?_
  by_cases hneg : many < 1
  · refine tri_reg mixed hcx ?_ _ _
    refine mv rfl ?_
    refine clt rfl rfl (decide_eq_true (by omega)) ?_
    refine mv rfl ?_
    refine j_off rfl rfl rfl rfl ?_
    refine j_off rfl rfl rfl rfl ?_
    refine pk rfl rfl ?_
    refine ⟨by kernel_rfl, ?_⟩
    refine nx (sl 1 rfl (sl 2 rfl (sl 22 rfl sn))) (el 10 rfl en) ?_
    refine tri_true rfl rfl ?_
    refine tri_seq ?_
    refine tri_reg mixed hcx ?_ _ _
    refine asg rfl ?_
    refine asg rfl ?_
    refine asg rfl ?_
    refine ⟨by kernel_rfl, ?_⟩
    refine nx (sl 4 rfl (sl 5 rfl (sl 6 rfl sn))) (el 10 rfl en) ?_
    refine tri_ret ?_
    repeat (first | refine pn_thenr ?_ | refine pn_blkr ?_)
    exact ret3 hcx rfl (rv_tmp rfl) (rv_tmp rfl) (rv_tmp rfl) (.refl _) en
  · refine tri_reg mixed hcx ?_ _ _
    refine mv rfl ?_
    refine clt rfl rfl (decide_eq_false (by omega)) ?_
    refine mv rfl ?_
    refine mv rfl ?_ (hg := gd1)
    refine cgt rfl rfl (decide_eq_true (by omega)) ?_ (hg := gd1)
    refine pk rfl rfl ?_
    refine ⟨by kernel_rfl, ?_⟩
    refine nx (sl 1 rfl (sl 2 rfl (sl 22 rfl sn))) (el 10 rfl en) ?_
    refine tri_true rfl rfl ?_
    refine tri_seq ?_
    refine tri_reg mixed hcx ?_ _ _
    refine asg rfl ?_
    refine asg rfl ?_
    refine asg rfl ?_
    refine ⟨by kernel_rfl, ?_⟩
    refine nx (sl 4 rfl (sl 5 rfl (sl 6 rfl sn))) (el 10 rfl en) ?_
    refine tri_ret ?_
    repeat (first | refine pn_thenr ?_ | refine pn_blkr ?_)
    exact ret3 hcx rfl (rv_tmp rfl) (rv_tmp rfl) (rv_tmp rfl) (.refl _) en

theorem l13_sj1 {D : List Int} {L : List (List Int)} {ts : List (Int × Int)} {a b : Int} {k : Nat} (hk : k ≤ 16777216) (hLl : L.length ≤ 1048576) (hDl : D.length ≤ 1048576) (htl : ts.length ≤ 1048576) {many : Int} (hV : ¬ TrV D L ts a b) : Fn Tryz.prog 7 [T.Tr D L ts a b k, T.c (.int .i64 many)] [] [] [] (T.c (.bool true)) := by
  refine fn_of Tryz.func7 rfl (by show 2 ≤ 78; decide) fun cx hcx => ?_
  refine tri_sub (sl 0 rfl (sl 1 rfl sn)) en ?_
  refine tri_seq ?_
  refine tri_reg mixed hcx ?_ _ _
  refine bxs 10 rfl ?_
  refine asg rfl ?_
  refine ⟨by kernel_rfl, ?_⟩
  refine nx (sl 1 rfl (sl 2 rfl sn)) (el 10 rfl en) ?_
  refine tri_seq ?_
  refine tri_reg mixed hcx ?_ _ _
  refine ld rfl rfl tyTr rfl ?_
  refine mv rfl ?_
  refine ca rfl (h := sp_Jobs_e (by decide) (t_Valid_no hk hLl hDl htl hV)) (hn := ?_)
  refine mv rfl ?_
  refine ex rfl rfl ?_
  refine ex rfl rfl ?_
  refine ex rfl rfl ?_
  refine asg rfl ?_
  refine asg rfl ?_
  refine asg rfl ?_
  refine ⟨by kernel_rfl, ?_⟩
  refine nx (sl 1 rfl (sl 2 rfl (sl 5 rfl (sl 6 rfl (sl 7 rfl sn))))) (el 10 rfl en) ?_
  refine tri_seq ?_
  refine tri_seq ?_
  refine tri_reg mixed hcx ?_ _ _
  refine ld rfl rfl tyTr rfl ?_
  refine ca rfl (h := r11_Valid_no hk hLl hDl htl hV) (hn := ?_)
  refine nt rfl _ rfl ?_
  refine ⟨by kernel_rfl, ?_⟩
  refine nx (sl 1 rfl (sl 2 rfl (sl 5 rfl (sl 6 rfl (sl 7 rfl (sl 21 rfl sn)))))) (el 10 rfl en) ?_
  refine tri_true rfl rfl ?_
  refine tri_seq ?_
  refine tri_reg mixed hcx ?_ _ _
  refine mv rfl ?_
  refine ceq rfl rfl rfl ?_
  refine mv rfl ?_
  refine mv rfl ?_ (hg := gd1)
  refine ln slZss rfl ?_ (hg := gd1)
  refine ceq rfl rfl rfl ?_ (hg := gd1)
  refine pk rfl rfl ?_
  refine mv rfl ?_
  refine mv rfl ?_ (hg := gd1)
  refine ln slJbs rfl ?_ (hg := gd1)
  refine ceq rfl rfl rfl ?_ (hg := gd1)
  refine pk rfl rfl ?_
  refine mv rfl ?_
  refine ca rfl (h := l13_awake) (hn := ?_) (hg := gd1)
  refine pk rfl rfl ?_
  refine asg rfl ?_
  refine ⟨by kernel_rfl, ?_⟩
  refine nx (sl 4 rfl sn) (el 10 rfl en) ?_
  refine tri_ret ?_
  repeat (first | refine pn_thenr ?_ | refine pn_blkr ?_)
  exact ret1 hcx rfl (rv_tmp rfl) (.refl _) en

theorem l13_lists0 : Fn Tryz.prog 35 [T.c (.slice none 0 0), T.c (.slice none 0 0)] [] [] [] (T.c (.bool true)) := fn_le (l13_lists (l := []) (k := 1) (k2 := 1) (by simp) (fun i hi => absurd hi (Nat.not_lt_zero _)) (by decide) (by decide)) ⟨nil_l _, nil_l _, trivial⟩

theorem l13_sj_arg {D : List Int} {L : List (List Int)} {ts : List (Int × Int)} {a b : Int} {n k : Nat} (h : TrS D L ts n k) (hb : 0 < b) (ha : 0 ≤ a) (hDl : D.length ≤ 1048576) (htl : ts.length ≤ 1048576) {many : Int} (hJ : Fn Tryz.prog 32 [T.Tr D L ts a b k, T.c (.int .i64 many)] [] [] [] (T.tup [T.c (.slice none 0 0), T.c (.slice none 0 0), T.c (.int .i64 1)])) (hR : Fn Tryz.prog 34 [T.Tr D L ts a b k, T.c (.int .i64 many)] [] [] [] (T.tup [T.c (.slice none 0 0), T.c (.slice none 0 0), T.c (.int .i64 1)])) : Fn Tryz.prog 7 [T.Tr D L ts a b k, T.c (.int .i64 many)] [] [] [] (T.c (.bool true)) := by
  refine fn_of Tryz.func7 rfl (by show 2 ≤ 78; decide) fun cx hcx => ?_
  refine tri_sub (sl 0 rfl (sl 1 rfl sn)) en ?_
  have hn12 := h.twelve
  have hkk := h.hk
  have hlL := h.len
  have hn0 := h.pos
  refine tri_seq ?_
  refine tri_reg mixed hcx ?_ _ _
  refine bxs 10 rfl ?_
  refine asg rfl ?_
  refine ⟨by kernel_rfl, ?_⟩
  refine nx (sl 1 rfl (sl 2 rfl sn)) (el 10 rfl en) ?_
  refine tri_seq ?_
  refine tri_reg mixed hcx ?_ _ _
  refine ld rfl rfl tyTr rfl ?_
  refine mv rfl ?_
  refine ca rfl (h := hJ) (hn := ?_)
  refine mv rfl ?_
  refine ex rfl rfl ?_
  refine ex rfl rfl ?_
  refine ex rfl rfl ?_
  refine asg rfl ?_
  refine asg rfl ?_
  refine asg rfl ?_
  refine ⟨by kernel_rfl, ?_⟩
  refine nx (sl 1 rfl (sl 2 rfl (sl 5 rfl (sl 6 rfl (sl 7 rfl sn))))) (el 10 rfl en) ?_
  refine tri_seq ?_
  refine tri_seq ?_
  refine tri_reg mixed hcx ?_ _ _
  refine ld rfl rfl tyTr rfl ?_
  refine ca rfl (h := r11_Valid7 h.hk (by omega) hDl htl h.good (by omega) (by rw [hlL]; exact h.tl) h.tp hb ha) (hn := ?_)
  refine nt rfl _ rfl ?_
  refine ⟨by kernel_rfl, ?_⟩
  refine nx (sl 1 rfl (sl 2 rfl (sl 5 rfl (sl 6 rfl (sl 7 rfl (sl 21 rfl sn)))))) (el 10 rfl en) ?_
  refine tri_false rfl rfl ?_
  refine tri_skip ?_
  refine nx (sl 1 rfl (sl 2 rfl (sl 5 rfl (sl 6 rfl (sl 7 rfl sn))))) (el 10 rfl en) ?_
  refine tri_seq ?_
  refine tri_reg mixed hcx ?_ _ _
  refine ld rfl rfl tyTr rfl ?_
  refine mv rfl ?_
  refine ca rfl (h := hR) (hn := ?_)
  refine mv rfl ?_
  refine ex rfl rfl ?_
  refine ex rfl rfl ?_
  refine ex rfl rfl ?_
  refine asg rfl ?_
  refine asg rfl ?_
  refine asg rfl ?_
  refine ⟨by kernel_rfl, ?_⟩
  refine nx (sl 5 rfl (sl 6 rfl (sl 7 rfl (sl 8 rfl (sl 9 rfl (sl 10 rfl sn)))))) (el 10 rfl en) ?_
  refine tri_seq ?_
  refine tri_seq ?_
  refine tri_reg mixed hcx ?_ _ _
  refine mv rfl ?_
  refine mv rfl ?_
  refine cne rfl rfl (decide_eq_false (by omega)) ?_
  refine mv rfl ?_
  refine mv rfl ?_ (hg := gd1)
  refine mv rfl ?_ (hg := gd1)
  refine ca rfl (h := l13_lists0) (hn := ?_) (hg := gd1)
  refine nt rfl _ rfl ?_ (hg := gd1)
  refine pk rfl rfl ?_
  refine mv rfl ?_
  refine mv rfl ?_ (hg := gd1)
  refine ln slJbs rfl ?_ (hg := gd1)
  refine mv rfl ?_ (hg := gd1)
  refine ln slZss rfl ?_ (hg := gd1)
  refine cne rfl rfl (decide_eq_false (by omega)) ?_ (hg := gd1)
  refine pk rfl rfl ?_
  refine ⟨by kernel_rfl, ?_⟩
  refine nx (sl 6 rfl (sl 9 rfl (sl 59 rfl sn))) (el 10 rfl en) ?_
  refine tri_false rfl rfl ?_
  refine tri_skip ?_
  refine nx (sl 6 rfl (sl 9 rfl sn)) (el 10 rfl en) ?_
  refine tri_seq ?_
  refine tri_seq ?_
  refine tri_reg mixed hcx ?_ _ _
  refine asg rfl ?_
  refine ⟨by kernel_rfl, ?_⟩
  refine nx (sl 6 rfl (sl 9 rfl (sl 11 rfl sn))) (el 10 rfl en) ?_
  refine tri_block ?_
  refine tri_loop (ι := Nat) (fun i => [(6, T.c (.slice none 0 0)), (9, T.c (.slice none 0 0)), (11, T.c (.int .i64 (i : Int)))]) (fun i => []) (fun i => 0 - i) (fun i => (i ≤ 0)) 0 (Nat.zero_le _) (sl 6 rfl (sl 9 rfl (sl 11 rfl sn))) en ?_
  rintro i hi
  refine tri_sub (sl 6 rfl (sl 9 rfl (sl 11 rfl sn))) en ?_
  refine tri_seq ?_
  refine tri_seq ?_
  refine tri_reg mixed hcx ?_ _ _
  refine mv rfl ?_
  refine mv rfl ?_
  refine ln slJbs rfl ?_
  refine clt rfl rfl (decide_eq_false (by omega)) ?_
  refine ⟨by kernel_rfl, ?_⟩
  refine nx (sl 6 rfl (sl 9 rfl (sl 11 rfl (sl 63 rfl sn)))) en ?_
  refine tri_false rfl rfl ?_
  refine tri_exit ?_
  repeat (first | refine pn_then ?_ | refine pn_oth (by decide) ?_)
  refine pn_ex ?_
  refine nx sn en ?_
  refine tri_seq ?_
  refine tri_reg mixed hcx ?_ _ _
  refine ca rfl (h := l13_awake) (hn := ?_)
  refine asg rfl ?_
  refine ⟨by kernel_rfl, ?_⟩
  refine nx (sl 4 rfl sn) en ?_
  refine tri_ret ?_
  repeat (first | refine pn_thenr ?_ | refine pn_blkr ?_)
  exact ret1 hcx rfl (rv_tmp rfl) (.refl _) en

theorem l13_sj_long {D : List Int} {L : List (List Int)} {ts : List (Int × Int)} {a b : Int} {n k : Nat} (h : TrS D L ts n k) (hb : 0 < b) (ha : 0 ≤ a) (hDl : D.length ≤ 1048576) (htl : ts.length ≤ 1048576) {many : Int} (hJ : Fn Tryz.prog 32 [T.Tr D L ts a b k, T.c (.int .i64 many)] [] [] [] (T.tup [T.c (.slice none 0 0), T.c (.slice none 0 0), T.c (.int .i64 2)])) (hR : Fn Tryz.prog 34 [T.Tr D L ts a b k, T.c (.int .i64 many)] [] [] [] (T.tup [T.c (.slice none 0 0), T.c (.slice none 0 0), T.c (.int .i64 2)])) : Fn Tryz.prog 7 [T.Tr D L ts a b k, T.c (.int .i64 many)] [] [] [] (T.c (.bool true)) := by
  refine fn_of Tryz.func7 rfl (by show 2 ≤ 78; decide) fun cx hcx => ?_
  refine tri_sub (sl 0 rfl (sl 1 rfl sn)) en ?_
  have hn12 := h.twelve
  have hkk := h.hk
  have hlL := h.len
  have hn0 := h.pos
  refine tri_seq ?_
  refine tri_reg mixed hcx ?_ _ _
  refine bxs 10 rfl ?_
  refine asg rfl ?_
  refine ⟨by kernel_rfl, ?_⟩
  refine nx (sl 1 rfl (sl 2 rfl sn)) (el 10 rfl en) ?_
  refine tri_seq ?_
  refine tri_reg mixed hcx ?_ _ _
  refine ld rfl rfl tyTr rfl ?_
  refine mv rfl ?_
  refine ca rfl (h := hJ) (hn := ?_)
  refine mv rfl ?_
  refine ex rfl rfl ?_
  refine ex rfl rfl ?_
  refine ex rfl rfl ?_
  refine asg rfl ?_
  refine asg rfl ?_
  refine asg rfl ?_
  refine ⟨by kernel_rfl, ?_⟩
  refine nx (sl 1 rfl (sl 2 rfl (sl 5 rfl (sl 6 rfl (sl 7 rfl sn))))) (el 10 rfl en) ?_
  refine tri_seq ?_
  refine tri_seq ?_
  refine tri_reg mixed hcx ?_ _ _
  refine ld rfl rfl tyTr rfl ?_
  refine ca rfl (h := r11_Valid7 h.hk (by omega) hDl htl h.good (by omega) (by rw [hlL]; exact h.tl) h.tp hb ha) (hn := ?_)
  refine nt rfl _ rfl ?_
  refine ⟨by kernel_rfl, ?_⟩
  refine nx (sl 1 rfl (sl 2 rfl (sl 5 rfl (sl 6 rfl (sl 7 rfl (sl 21 rfl sn)))))) (el 10 rfl en) ?_
  refine tri_false rfl rfl ?_
  refine tri_skip ?_
  refine nx (sl 1 rfl (sl 2 rfl (sl 5 rfl (sl 6 rfl (sl 7 rfl sn))))) (el 10 rfl en) ?_
  refine tri_seq ?_
  refine tri_reg mixed hcx ?_ _ _
  refine ld rfl rfl tyTr rfl ?_
  refine mv rfl ?_
  refine ca rfl (h := hR) (hn := ?_)
  refine mv rfl ?_
  refine ex rfl rfl ?_
  refine ex rfl rfl ?_
  refine ex rfl rfl ?_
  refine asg rfl ?_
  refine asg rfl ?_
  refine asg rfl ?_
  refine ⟨by kernel_rfl, ?_⟩
  refine nx (sl 5 rfl (sl 6 rfl (sl 7 rfl (sl 8 rfl (sl 9 rfl (sl 10 rfl sn)))))) (el 10 rfl en) ?_
  refine tri_seq ?_
  refine tri_seq ?_
  refine tri_reg mixed hcx ?_ _ _
  refine mv rfl ?_
  refine mv rfl ?_
  refine cne rfl rfl (decide_eq_false (by omega)) ?_
  refine mv rfl ?_
  refine mv rfl ?_ (hg := gd1)
  refine mv rfl ?_ (hg := gd1)
  refine ca rfl (h := l13_lists0) (hn := ?_) (hg := gd1)
  refine nt rfl _ rfl ?_ (hg := gd1)
  refine pk rfl rfl ?_
  refine mv rfl ?_
  refine mv rfl ?_ (hg := gd1)
  refine ln slJbs rfl ?_ (hg := gd1)
  refine mv rfl ?_ (hg := gd1)
  refine ln slZss rfl ?_ (hg := gd1)
  refine cne rfl rfl (decide_eq_false (by omega)) ?_ (hg := gd1)
  refine pk rfl rfl ?_
  refine ⟨by kernel_rfl, ?_⟩
  refine nx (sl 6 rfl (sl 9 rfl (sl 59 rfl sn))) (el 10 rfl en) ?_
  refine tri_false rfl rfl ?_
  refine tri_skip ?_
  refine nx (sl 6 rfl (sl 9 rfl sn)) (el 10 rfl en) ?_
  refine tri_seq ?_
  refine tri_seq ?_
  refine tri_reg mixed hcx ?_ _ _
  refine asg rfl ?_
  refine ⟨by kernel_rfl, ?_⟩
  refine nx (sl 6 rfl (sl 9 rfl (sl 11 rfl sn))) (el 10 rfl en) ?_
  refine tri_block ?_
  refine tri_loop (ι := Nat) (fun i => [(6, T.c (.slice none 0 0)), (9, T.c (.slice none 0 0)), (11, T.c (.int .i64 (i : Int)))]) (fun i => []) (fun i => 0 - i) (fun i => (i ≤ 0)) 0 (Nat.zero_le _) (sl 6 rfl (sl 9 rfl (sl 11 rfl sn))) en ?_
  rintro i hi
  refine tri_sub (sl 6 rfl (sl 9 rfl (sl 11 rfl sn))) en ?_
  refine tri_seq ?_
  refine tri_seq ?_
  refine tri_reg mixed hcx ?_ _ _
  refine mv rfl ?_
  refine mv rfl ?_
  refine ln slJbs rfl ?_
  refine clt rfl rfl (decide_eq_false (by omega)) ?_
  refine ⟨by kernel_rfl, ?_⟩
  refine nx (sl 6 rfl (sl 9 rfl (sl 11 rfl (sl 63 rfl sn)))) en ?_
  refine tri_false rfl rfl ?_
  refine tri_exit ?_
  repeat (first | refine pn_then ?_ | refine pn_oth (by decide) ?_)
  refine pn_ex ?_
  refine nx sn en ?_
  refine tri_seq ?_
  refine tri_reg mixed hcx ?_ _ _
  refine ca rfl (h := l13_awake) (hn := ?_)
  refine asg rfl ?_
  refine ⟨by kernel_rfl, ?_⟩
  refine nx (sl 4 rfl sn) en ?_
  refine tri_ret ?_
  repeat (first | refine pn_thenr ?_ | refine pn_blkr ?_)
  exact ret1 hcx rfl (rv_tmp rfl) (.refl _) en

theorem l13_sj_ok {D : List Int} {L : List (List Int)} {ts : List (Int × Int)} {a b : Int} {n k : Nat} (h : TrS D L ts n k) (hb : 0 < b) (ha : 0 ≤ a) (hDl : D.length ≤ 1048576) (htl : ts.length ≤ 1048576) {many : Int} {d l : List (List Int)} (hd : d.length ≤ 1048576) (hl : l.length ≤ 1048576) (hdr : ∀ i, i < d.length → (d.getD i []).length ≤ 1048576) (hlr : ∀ i, i < l.length → (l.getD i []).length ≤ 1048576) (hJ : Fn Tryz.prog 32 [T.Tr D L ts a b k, T.c (.int .i64 many)] [] [] [] (T.tup [T.l (cL (cZ k)) d, T.l (cJ k) l, T.c (.int .i64 0)])) (hR : Fn Tryz.prog 34 [T.Tr D L ts a b k, T.c (.int .i64 many)] [] [] [] (T.tup [T.l (cL (cZ k)) d, T.l (cL (cZ k)) l, T.c (.int .i64 0)])) : Fn Tryz.prog 7 [T.Tr D L ts a b k, T.c (.int .i64 many)] [] [] [] (T.c (.bool true)) := by
  refine fn_of Tryz.func7 rfl (by show 2 ≤ 78; decide) fun cx hcx => ?_
  refine tri_sub (sl 0 rfl (sl 1 rfl sn)) en ?_
  have hn12 := h.twelve
  have hkk := h.hk
  have hlL := h.len
  have hn0 := h.pos
  refine tri_seq ?_
  refine tri_reg mixed hcx ?_ _ _
  refine bxs 10 rfl ?_
  refine asg rfl ?_
  refine ⟨by kernel_rfl, ?_⟩
  refine nx (sl 1 rfl (sl 2 rfl sn)) (el 10 rfl en) ?_
  refine tri_seq ?_
  refine tri_reg mixed hcx ?_ _ _
  refine ld rfl rfl tyTr rfl ?_
  refine mv rfl ?_
  refine ca rfl (h := hJ) (hn := ?_)
  refine mv rfl ?_
  refine ex rfl rfl ?_
  refine ex rfl rfl ?_
  refine ex rfl rfl ?_
  refine asg rfl ?_
  refine asg rfl ?_
  refine asg rfl ?_
  refine ⟨by kernel_rfl, ?_⟩
  refine nx (sl 1 rfl (sl 2 rfl (sl 5 rfl (sl 6 rfl (sl 7 rfl sn))))) (el 10 rfl en) ?_
  refine tri_seq ?_
  refine tri_seq ?_
  refine tri_reg mixed hcx ?_ _ _
  refine ld rfl rfl tyTr rfl ?_
  refine ca rfl (h := r11_Valid7 h.hk (by omega) hDl htl h.good (by omega) (by rw [hlL]; exact h.tl) h.tp hb ha) (hn := ?_)
  refine nt rfl _ rfl ?_
  refine ⟨by kernel_rfl, ?_⟩
  refine nx (sl 1 rfl (sl 2 rfl (sl 5 rfl (sl 6 rfl (sl 7 rfl (sl 21 rfl sn)))))) (el 10 rfl en) ?_
  refine tri_false rfl rfl ?_
  refine tri_skip ?_
  refine nx (sl 1 rfl (sl 2 rfl (sl 5 rfl (sl 6 rfl (sl 7 rfl sn))))) (el 10 rfl en) ?_
  refine tri_seq ?_
  refine tri_reg mixed hcx ?_ _ _
  refine ld rfl rfl tyTr rfl ?_
  refine mv rfl ?_
  refine ca rfl (h := hR) (hn := ?_)
  refine mv rfl ?_
  refine ex rfl rfl ?_
  refine ex rfl rfl ?_
  refine ex rfl rfl ?_
  refine asg rfl ?_
  refine asg rfl ?_
  refine asg rfl ?_
  refine ⟨by kernel_rfl, ?_⟩
  refine nx (sl 5 rfl (sl 6 rfl (sl 7 rfl (sl 8 rfl (sl 9 rfl (sl 10 rfl sn)))))) (el 10 rfl en) ?_
  refine tri_seq ?_
  refine tri_seq ?_
  refine tri_reg mixed hcx ?_ _ _
  refine mv rfl ?_
  refine mv rfl ?_
  refine cne rfl rfl (decide_eq_false (by omega)) ?_
  refine mv rfl ?_
  refine mv rfl ?_ (hg := gd1)
  refine mv rfl ?_ (hg := gd1)
  refine ca rfl (h := l13_lists hd hdr (by omega) (by omega)) (hn := ?_) (hg := gd1)
  refine nt rfl _ rfl ?_ (hg := gd1)
  refine pk rfl rfl ?_
  refine mv rfl ?_
  refine mv rfl ?_ (hg := gd1)
  refine ln slJbs rfl ?_ (hg := gd1)
  refine mv rfl ?_ (hg := gd1)
  refine ln slZss rfl ?_ (hg := gd1)
  refine cne rfl rfl (decide_eq_false (by omega)) ?_ (hg := gd1)
  refine pk rfl rfl ?_
  refine ⟨by kernel_rfl, ?_⟩
  refine nx (sl 6 rfl (sl 9 rfl (sl 59 rfl sn))) (el 10 rfl en) ?_
  refine tri_false rfl rfl ?_
  refine tri_skip ?_
  refine nx (sl 6 rfl (sl 9 rfl sn)) (el 10 rfl en) ?_
  refine tri_seq ?_
  refine tri_seq ?_
  refine tri_reg mixed hcx ?_ _ _
  refine asg rfl ?_
  refine ⟨by kernel_rfl, ?_⟩
  refine nx (sl 6 rfl (sl 9 rfl (sl 11 rfl sn))) (el 10 rfl en) ?_
  refine tri_block ?_
  refine tri_loop (ι := Nat) (fun i => [(6, T.l (cJ k) l), (9, T.l (cL (cZ k)) l), (11, T.c (.int .i64 (i : Int)))]) (fun i => []) (fun i => l.length - i) (fun i => (i ≤ l.length)) 0 (Nat.zero_le _) (sl 6 rfl (sl 9 rfl (sl 11 rfl sn))) en ?_
  rintro i hi
  refine tri_sub (sl 6 rfl (sl 9 rfl (sl 11 rfl sn))) en ?_
  refine tri_seq ?_
  refine tri_seq ?_
  refine tri_reg mixed hcx ?_ _ _
  refine mv rfl ?_
  refine mv rfl ?_
  refine ln slJbs rfl ?_
  refine clt rfl rfl rfl ?_
  refine ⟨by kernel_rfl, ?_⟩
  refine nx (sl 6 rfl (sl 9 rfl (sl 11 rfl (sl 63 rfl sn)))) en ?_
  refine tri_if rfl (fun hc => ?_) (fun hc => ?_)
  · refine tri_skip ?_
    refine nx (sl 6 rfl (sl 9 rfl (sl 11 rfl sn))) en ?_
    refine tri_seq ?_
    refine tri_block ?_
    refine tri_seq ?_
    refine tri_reg mixed hcx ?_ _ _
    refine mv rfl ?_
    refine mv rfl ?_
    refine ix rfl rfl slJbs ⟨rfl, by omega⟩ ?_
    refine ff rfl fJbR rfl ?_
    refine lf rfl tyZs ?_
    refine mv rfl ?_
    refine mv rfl ?_
    refine ix rfl rfl slZss ⟨rfl, by omega⟩ ?_
    refine lf rfl tyZs ?_
    refine ca rfl (h := l13_wholes (l := l.getD i []) (k := k) (k2 := k) (hlr i (by omega)) (by omega) (by omega)) (hn := ?_)
    refine nt rfl _ rfl ?_
    refine ⟨by kernel_rfl, ?_⟩
    refine nx (sl 6 rfl (sl 9 rfl (sl 11 rfl (sl 76 rfl sn)))) en ?_
    refine tri_false rfl rfl ?_
    refine tri_skip ?_
    refine pn_blk ?_
    refine nx (sl 6 rfl (sl 9 rfl (sl 11 rfl sn))) en ?_
    refine tri_reg mixed hcx ?_ _ _
    refine mv rfl ?_
    refine ad (((i + 1 : Nat) : Int)) rfl rfl rfl (by omega) ?_
    refine asg rfl ?_
    refine ⟨by kernel_rfl, ?_⟩
    exact pn_back (i + 1) (by first | omega | (dsimp only; omega)) (by omega) (sl 6 rfl (sl 9 rfl (sl 11 rfl sn))) en
  · refine tri_exit ?_
    repeat (first | refine pn_then ?_ | refine pn_oth (by decide) ?_)
    refine pn_ex ?_
    refine nx sn en ?_
    refine tri_seq ?_
    refine tri_reg mixed hcx ?_ _ _
    refine ca rfl (h := l13_awake) (hn := ?_)
    refine asg rfl ?_
    refine ⟨by kernel_rfl, ?_⟩
    refine nx (sl 4 rfl sn) en ?_
    refine tri_ret ?_
    repeat (first | refine pn_thenr ?_ | refine pn_blkr ?_)
    exact ret1 hcx rfl (rv_tmp rfl) (.refl _) en

/-- The law, of every tree and number. -/
theorem sj_all {D : List Int} {L : List (List Int)} {ts : List (Int × Int)} {a b : Int} {k : Nat} {many : Int} (hk : k ≤ 1048576) (hLl : L.length ≤ 1048576) (hDl : D.length ≤ 1048576) (htl : ts.length ≤ 1048576) : Fn Tryz.prog 7 [T.Tr D L ts a b k, T.c (.int .i64 many)] [] [] [] (T.c (.bool true)) := fn_trz fun hZ => by
  classical
  by_cases hV : TrV D L ts a b
  · have h := hV.trs hZ (by omega)
    obtain ⟨hG, hn, ht, hd, hb, ha⟩ := hV
    by_cases hm : many < 1 ∨ 4096 < many
    · exact l13_sj_arg h hb ha hDl htl (sp_Jobs_arg h hb ha hm) (r13_Jobs_arg hm)
    · obtain ⟨m', rfl⟩ : ∃ m' : Nat, many = (m' : Int) := ⟨many.toNat, by omega⟩
      have h2 := h.mono (K := 16777216) (by omega) (Nat.le_refl _)
      have hR0 : (0 : Rat) ≤ (a : Rat) / (b : Rat) := by rw [show (0 : Rat) = ((0 : Int) : Rat) from rfl, rle_div hb]; omega
      obtain ⟨t, res, hJ⟩ := JB.ex0 (many := m') (k := 16777216) h (by omega) (Rb.frac hZ.za hb) hR0 (by omega)
      obtain ⟨N, dd, ll, k1, k2, k3, k4⟩ := hJ.trace
      have hB := trace_b (by omega) k1 k2 k3
      have h12 := h.twelve
      have hP := sp_Jobs h2 hb ha (by omega) (by omega) k1 k2 k3 k4
      have hQ := r13_Jobs h2 hb (by omega) (by omega) k1 k2 k3 (fun j hj i hi => len_at (hB j hj).1.2 (by omega) hi) k4
      refine fn_le (Bs := [T.Tr D L ts a b 16777216, T.c (.int .i64 (m' : Int))]) ?_ ⟨tr_mono (by omega), .refl _, trivial⟩
      have hN := hB N (Nat.le_refl _)
      cases res with
      | none => exact l13_sj_long h2 hb ha hDl htl (fn_out hP jr_out0) (fn_out hQ jrr_out0)
      | some p =>
        have hp : p = (dd N, ll N) := by
          rcases k4 with ⟨_, e⟩ | ⟨_, _, e⟩ | ⟨i, m, _, _, e⟩
          · exact Option.some.inj e
          · exact Option.some.inj e
          · cases e
        subst hp
        exact l13_sj_ok h2 hb ha hDl htl (by omega) (by omega) (fun i hi => len_at hN.2.2 (by omega) hi) (fun i hi => len_at hN.1.2 (by omega) hi) (fn_out hP jr_out) (fn_out hQ jrr_out)
  · exact l13_sj1 (by omega) hLl hDl htl hV
end Go.Proofs.YtekghdfbhbhigaaGreat.V
