/- Search trees: the children of a suffix. -/
import Derived.Scope
import Derived.Test.YtekghdfbhbhigaaGreatM06
set_option linter.unusedVariables false
set_option linter.unusedSimpArgs false
set_option maxRecDepth 100000
namespace Go.Proofs.YtekghdfbhbhigaaGreat.V
open Go.RowKit Mt Nml
/-- The first numbers about a centre. -/
def kl (c : Rat) (j : Nat) : List Int := (List.range j).map (nth c)
theorem kl_succ {c : Rat} {j : Nat} : kl c j ++ [nth c j] = kl c (j + 1) := by simp [kl, List.range_succ]
theorem kl_len {c : Rat} {j : Nat} : (kl c j).length = j := by simp [kl]
theorem kl_at {c : Rat} {i j : Nat} (h : i < j) : (kl c j).getD i 0 = nth c i := rng_at h

theorem t_Kids {D : List Int} {L : List (List Int)} {ts : List (Int × Int)} {a b : Int} {n k : Nat} (h : TrS D L ts n k) {s : List Int} {m mo : Nat} (hb : 0 < b) (ha : 0 ≤ a) (hs : s.length + 1 ≤ n) (hx : ∀ j, j ≤ m → zl (nth (ctT D L ts s (n - 1) (n - 1 - s.length) s.length) j) ≤ k) (hw : ∀ j, j < m → ptT D L ts (s ++ [nth (ctT D L ts s (n - 1) (n - 1 - s.length) s.length) j]) (n - 1) (s.length + 1) ≤ (a : Rat) / (b : Rat)) (hn : ¬ ptT D L ts (s ++ [nth (ctT D L ts s (n - 1) (n - 1 - s.length) s.length) m]) (n - 1) (s.length + 1) ≤ (a : Rat) / (b : Rat)) (hmo : mo ≤ 65536) (hin : ptT D L ts s (n - 1) s.length ≤ (a : Rat) / (b : Rat)) : Fn Tryz.prog 20 [T.Tr D L ts a b k, T.l (cZi k) s, T.c (.int .i64 (mo : Int))] [] [] [] (T.tup [T.l (cZ k) (kl (ctT D L ts s (n - 1) (n - 1 - s.length) s.length) (min m mo)), T.c (.bool (decide (m ≤ mo))), T.c (.int .i64 0)]) := by
  refine fn_ofM Tryz.func20 rfl (by show 3 ≤ 48; decide) fun cx hcx => ?_
  refine tri_sub (sl 0 rfl (sl 1 rfl (sl 2 rfl sn))) en ?_
  have hn12 := h.twelve
  have hkk := h.hk
  have hlL := h.len
  have hn0 := h.pos
  refine tri_lz 1 rfl fun hz => ?_
  refine tri_seq ?_
  refine tri_reg mixed hcx ?_ _ _
  refine bxs 10 rfl ?_
  refine bx 11 rfl ?_
  refine nw 12 zeZs ?_
  refine nw 13 zeB ?_
  refine nw 14 zeE ?_
  refine ⟨by kernel_rfl, ?_⟩
  refine nx (sl 1 rfl (sl 3 rfl (sl 5 rfl (sl 6 rfl (sl 7 rfl (sl 8 rfl sn)))))) (el 10 rfl (el 11 rfl (el 12 rfl (el 13 rfl (el 14 rfl en))))) ?_
  refine tri_seq ?_
  refine tri_seq ?_
  refine tri_reg mixed hcx ?_ _ _
  refine ld rfl rfl tyTr rfl ?_
  refine mv rfl ?_
  refine fa rfl fTrG 0 ?_
  refine fa rfl fL 1 ?_
  refine ld rfl rfl tyZss rfl ?_
  refine ln slZss rfl ?_
  refine sb (((n - 1 : Nat) : Int)) rfl rfl rfl (by omega) ?_
  refine ld rfl rfl tyI rfl ?_
  refine ca rfl (h := t_counted h hb ha (m := n - 1) (by omega) (by omega) hmo) (hn := ?_)
  refine asg rfl ?_
  refine ⟨by kernel_rfl, ?_⟩
  refine nx (sl 1 rfl (sl 3 rfl (sl 5 rfl (sl 6 rfl (sl 7 rfl (sl 8 rfl (sl 9 rfl sn))))))) (el 10 rfl (el 11 rfl (el 12 rfl (el 13 rfl (el 14 rfl en))))) ?_
  refine tri_seq ?_
  refine tri_reg mixed hcx ?_ _ _
  refine mv rfl ?_
  refine cne rfl rfl (decide_eq_false (by omega)) ?_
  refine ⟨by kernel_rfl, ?_⟩
  refine nx (sl 1 rfl (sl 3 rfl (sl 5 rfl (sl 6 rfl (sl 7 rfl (sl 8 rfl (sl 9 rfl (sl 23 rfl sn)))))))) (el 10 rfl (el 11 rfl (el 12 rfl (el 13 rfl (el 14 rfl en))))) ?_
  refine tri_false rfl rfl ?_
  refine tri_skip ?_
  refine nx (sl 1 rfl (sl 3 rfl (sl 5 rfl (sl 6 rfl (sl 7 rfl (sl 8 rfl sn)))))) (el 10 rfl (el 11 rfl (el 12 rfl (el 13 rfl (el 14 rfl en))))) ?_
  refine tri_seq ?_
  refine tri_reg mixed hcx ?_ _ _
  refine ld rfl rfl tyTr rfl ?_
  refine mv rfl ?_
  refine ca rfl (h := t_part h (by omega)) (hn := ?_)
  refine nw 413 zeQ ?_
  refine st rfl rfl rfl tyQ rfl ?_
  refine ⟨by kernel_rfl, ?_⟩
  refine nx (sl 1 rfl (sl 3 rfl (sl 5 rfl (sl 6 rfl (sl 7 rfl (sl 8 rfl (sl 10 rfl sn))))))) (el 10 rfl (el 11 rfl (el 12 rfl (el 13 rfl (el 14 rfl (el 413 rfl en)))))) ?_
  refine tri_seq ?_
  refine tri_seq ?_
  refine tri_reg mixed hcx ?_ _ _
  refine ld rfl rfl tyTr rfl ?_
  refine ld rfl rfl tyQ rfl ?_
  refine cb rfl (h := t_within hb (by omega) (by omega)) (hn := ?_)
  refine nt rfl _ (show (!decide _) = false from by rw [decide_eq_true hin]; rfl) ?_
  refine ⟨by kernel_rfl, ?_⟩
  refine nx (sl 1 rfl (sl 3 rfl (sl 5 rfl (sl 6 rfl (sl 7 rfl (sl 8 rfl (sl 10 rfl (sl 31 rfl sn)))))))) (el 10 rfl (el 11 rfl (el 12 rfl (el 13 rfl (el 14 rfl (el 413 rfl en)))))) ?_
  refine tri_false rfl rfl ?_
  refine tri_skip ?_
  refine nx (sl 1 rfl (sl 3 rfl (sl 5 rfl (sl 6 rfl (sl 7 rfl (sl 8 rfl (sl 10 rfl sn))))))) (el 10 rfl (el 11 rfl (el 12 rfl (el 13 rfl (el 14 rfl (el 413 rfl en)))))) ?_
  refine tri_seq ?_
  refine tri_reg mixed hcx ?_ _ _
  refine nw 710 zeZs ?_
  refine ⟨by kernel_rfl, ?_⟩
  refine nx (sl 1 rfl (sl 3 rfl (sl 5 rfl (sl 6 rfl (sl 7 rfl (sl 8 rfl (sl 10 rfl (sl 11 rfl sn)))))))) (el 10 rfl (el 11 rfl (el 12 rfl (el 13 rfl (el 14 rfl (el 413 rfl (el 710 rfl en))))))) ?_
  refine tri_seq ?_
  refine tri_seq ?_
  rcases Nat.lt_or_ge mo m with hlt | hle
  · refine tri_nilb (cZ k) 32 (bl := [T.c (.slice none 0 0)]) (bl' := [T.o 9]) 710 9 rfl ⟨.inr ⟨rfl, rfl⟩, trivial⟩ (by rw [hcx]; kernel_rfl) ?_
    refine tri_reg mixed hcx ?_ _ _
    refine ld rfl rfl tyTr rfl ?_
    refine mv rfl ?_
    refine ld rfl rfl tyQ rfl ?_
    refine ca rfl (h := t_kids) (hn := ?_)
    refine ⟨by kernel_rfl, ?_⟩
    refine nx (sl 5 rfl (sl 6 rfl (sl 7 rfl (sl 8 rfl (sl 11 rfl (sl 35 rfl sn)))))) (el 10 rfl (el 11 rfl (el 12 rfl (el 13 rfl (el 14 rfl (el 413 rfl (el 710 rfl (el 9 rfl en)))))))) ?_
    refine tri_block ?_
    refine tri_range (ι := Nat) (κ := Unit) (f := 121) (Caps := [T.fp (T.Tr D L ts a b k), T.fp (T.l (cZi k) s), T.fp (T.Q (ptT D L ts s (n - 1) s.length) 15100000000)]) (R := T.tup []) (g' := [(5, T.p 11 0), (6, T.p 12 0), (7, T.p 13 0), (8, T.p 14 0), (11, T.p 710 0)]) (fun j => [(11, some (Ent.box 3 [T.c (.int .i64 (mo : Int))])), (12, some (Ent.box 23 [T.c (.slice none 0 0)])), (13, some (Ent.box 4 [T.c (.bool false)])), (14, some (Ent.box 41 [T.c (.int .i64 0)])), (9, some (Ent.row (cZ k) 32 (kl (ctT D L ts s (n - 1) (n - 1 - s.length) s.length) j))), (710, some (Ent.box 23 [T.o 9]))]) (fun _ => [(11, some (Ent.box 3 [T.c (.int .i64 (mo : Int))])), (12, some (Ent.box 23 [T.o 9])), (13, some (Ent.box 4 [T.c (.bool false)])), (14, some (Ent.box 41 [T.c (.int .i64 0)])), (9, some (Ent.row (cZ k) 32 (kl (ctT D L ts s (n - 1) (n - 1 - s.length) s.length) mo))), (710, some (Ent.box 23 [T.o 9]))]) (fun _ => .ret) (fun j X o => (j < mo ∧ X = (T.Ch (nth (ctT D L ts s (n - 1) (n - 1 - s.length) s.length) j) k (ptT D L ts (s ++ [nth (ctT D L ts s (n - 1) (n - 1 - s.length) s.length) j]) (n - 1) (s.length + 1)) 15100000000) ∧ o = .inl (j + 1)) ∨ (j = mo ∧ X = (T.Ch (nth (ctT D L ts s (n - 1) (n - 1 - s.length) s.length) j) k (ptT D L ts (s ++ [nth (ctT D L ts s (n - 1) (n - 1 - s.length) s.length) j]) (n - 1) (s.length + 1)) 15100000000) ∧ o = .inr ())) (0) (.inr ()) rfl hcx rfl (by intro a w; kernel_rfl) (by decide) (sl 5 rfl (sl 6 rfl (sl 7 rfl (sl 8 rfl (sl 11 rfl sn))))) (el 11 rfl (el 12 rfl (el 13 rfl (el 14 rfl (el 9 rfl (el 710 rfl en)))))) ?_ ?_ ?_ ?_
    · intro lw W V hW
      exact t_kids1 (Z := W) (zf := V ()) (K := mo) h hb hs hz (fun j hj => hx j (by omega)) (fun j hj => hw j (by omega)) (fun j hj => hW j _ (.inl (j + 1)) (.inl ⟨hj, rfl, rfl⟩)) (.inr ⟨hw mo hlt, hW mo _ (.inr ()) (.inr ⟨rfl, rfl, rfl⟩)⟩)
    · rintro j X o (⟨_, rfl, _⟩ | ⟨_, rfl, _⟩) <;> rfl
    · rintro lr dB rr c' hrd hdf hcx' j X o (⟨hj, rfl, rfl⟩ | ⟨hj, rfl, rfl⟩)
      · have hkl := @kl_len (ctT D L ts s (n - 1) (n - 1 - s.length) s.length) j
        refine tri_reg mixed hcx' ?_ _ _
        refine nw 910 zeCh ?_
        refine sts rfl rfl rfl tyCh rfl ?_
        refine ⟨by kernel_rfl, ?_⟩
        refine nx_begin hrd rfl (sl 5 rfl (sl 6 rfl (sl 7 rfl (sl 8 rfl (sl 11 rfl (sl 12 rfl sn)))))) (el 702 rfl (el 701 rfl (el 11 rfl (el 12 rfl (el 13 rfl (el 14 rfl (el 9 rfl (el 710 rfl (el 910 rfl en))))))))) ?_
        refine tri_block ?_
        refine tri_seq ?_
        refine tri_seq ?_
        refine tri_reg mixed hcx' ?_ _ _
        refine ld rfl rfl tyZs rfl ?_
        refine lno slZs rfl rfl ?_
        refine ld rfl rfl tyI rfl ?_
        refine ceq rfl rfl (decide_eq_false (by omega)) ?_
        refine ⟨by kernel_rfl, ?_⟩
        refine nx (sl 6 rfl (sl 7 rfl (sl 8 rfl (sl 11 rfl (sl 12 rfl (sl 40 rfl sn)))))) (el 702 rfl (el 701 rfl (el 11 rfl (el 12 rfl (el 13 rfl (el 14 rfl (el 9 rfl (el 710 rfl (el 910 rfl en))))))))) ?_
        refine tri_false rfl rfl ?_
        refine tri_skip ?_
        refine nx (sl 11 rfl (sl 12 rfl sn)) (el 702 rfl (el 701 rfl (el 11 rfl (el 12 rfl (el 13 rfl (el 14 rfl (el 9 rfl (el 710 rfl (el 910 rfl en))))))))) ?_
        refine tri_reg mixed hcx' ?_ _ _
        refine ld rfl rfl tyZs rfl ?_
        refine fa rfl fChx 0 ?_
        refine ld rfl rfl tyZ rfl ?_
        refine bs (c := cZ k) (xs := [nth (ctT D L ts s (n - 1) (n - 1 - s.length) s.length) j]) slZs rfl ⟨.refl _, trivial⟩ ?_
        refine ap 1214 rfl rfl rfl slZs (by simp only [List.length_cons, List.length_nil]; omega) (by decide) ?_
        refine st rfl rfl rfl tyZs rfl ?_
        refine ⟨by kernel_rfl, ?_⟩
        refine pn_blk ?_
        refine pn_sub sn (el 702 rfl (el 701 rfl (el 11 rfl (el 12 rfl (el 13 rfl (el 14 rfl (el 1214 rfl (el 710 rfl en)))))))) ?_
        refine pn_renb (bl := [T.o 1214]) (bl' := [T.o 9]) 710 9 1214 rfl rfl ⟨.inr ⟨rfl, rfl⟩, trivial⟩ (by rw [hcx']; kernel_rfl) rfl ?_
        exact rq_go (el 702 rfl (el 701 rfl (el 11 rfl (el 12 rfl (el 13 rfl (el 14 rfl (ew 9 rfl (.of (by rw [kl_succ])) (el 710 rfl en))))))))
      · have hkl := @kl_len (ctT D L ts s (n - 1) (n - 1 - s.length) s.length) j
        refine tri_reg mixed hcx' ?_ _ _
        refine nw 910 zeCh ?_
        refine sts rfl rfl rfl tyCh rfl ?_
        refine ⟨by kernel_rfl, ?_⟩
        refine nx_begin hrd rfl (sl 5 rfl (sl 6 rfl (sl 7 rfl (sl 8 rfl (sl 11 rfl (sl 12 rfl sn)))))) (el 702 rfl (el 701 rfl (el 11 rfl (el 12 rfl (el 13 rfl (el 14 rfl (el 9 rfl (el 710 rfl (el 910 rfl en))))))))) ?_
        refine tri_block ?_
        refine tri_seq ?_
        refine tri_seq ?_
        refine tri_reg mixed hcx' ?_ _ _
        refine ld rfl rfl tyZs rfl ?_
        refine lno slZs rfl rfl ?_
        refine ld rfl rfl tyI rfl ?_
        refine ceq rfl rfl (decide_eq_true (by omega)) ?_
        refine ⟨by kernel_rfl, ?_⟩
        refine nx (sl 6 rfl (sl 7 rfl (sl 8 rfl (sl 11 rfl (sl 12 rfl (sl 40 rfl sn)))))) (el 702 rfl (el 701 rfl (el 11 rfl (el 12 rfl (el 13 rfl (el 14 rfl (el 9 rfl (el 710 rfl (el 910 rfl en))))))))) ?_
        refine tri_true rfl rfl ?_
        refine tri_seq ?_
        refine tri_reg mixed hcx' ?_ _ _
        refine ld rfl rfl tyZs rfl ?_
        refine st rfl rfl rfl tyZs rfl ?_
        refine st rfl rfl rfl tyB rfl ?_
        refine st rfl rfl rfl tyE rfl ?_
        refine ⟨by kernel_rfl, ?_⟩
        refine nx (sl 6 rfl (sl 7 rfl (sl 8 rfl sn))) (el 702 rfl (el 701 rfl (el 11 rfl (el 12 rfl (el 13 rfl (el 14 rfl (el 9 rfl (el 710 rfl (el 910 rfl en))))))))) ?_
        refine tri_ret ?_
        repeat (first | refine pn_thenr ?_ | refine pn_blkr ?_)
        exact rq_ret (el 702 rfl (el 701 rfl (el 11 rfl (el 12 rfl (el 13 rfl (el 14 rfl (ew 9 rfl (.of (by rw [hj])) (el 710 rfl en))))))))
    · intro lr dB oo
      refine done_stop ?_
      refine tri_fz 9 rfl ?_
      refine tri_rdb (bl := [T.o 9]) (bl' := [T.l (cZ k) (kl (ctT D L ts s (n - 1) (n - 1 - s.length) s.length) mo)]) 12 9 rfl rfl ⟨.inr ⟨rfl, rfl⟩, trivial⟩ ?_
      refine tri_ret ?_
      repeat (first | refine pn_thenr ?_ | refine pn_blkr ?_)
      refine ret_M1 (.inl rfl) rfl rfl ?_
      exact ret3 hcx rfl (rv_cell (c' := cx) (n := 0) rfl rfl tyZs rfl) (rv_cell (c' := cx) (n := 0) rfl rfl tyB rfl) (rv_cell (c' := cx) (n := 0) rfl rfl tyE rfl) (tup_le ⟨.of (by rw [Nat.min_eq_right (by omega)]), .of (by rw [decide_eq_false (by omega)]), .refl _, trivial⟩) en
  · refine tri_nilb (cZ k) 32 (bl := [T.c (.slice none 0 0)]) (bl' := [T.o 9]) 710 9 rfl ⟨.inr ⟨rfl, rfl⟩, trivial⟩ (by rw [hcx]; kernel_rfl) ?_
    refine tri_reg mixed hcx ?_ _ _
    refine ld rfl rfl tyTr rfl ?_
    refine mv rfl ?_
    refine ld rfl rfl tyQ rfl ?_
    refine ca rfl (h := t_kids) (hn := ?_)
    refine ⟨by kernel_rfl, ?_⟩
    refine nx (sl 5 rfl (sl 6 rfl (sl 7 rfl (sl 8 rfl (sl 11 rfl (sl 35 rfl sn)))))) (el 10 rfl (el 11 rfl (el 12 rfl (el 13 rfl (el 14 rfl (el 413 rfl (el 710 rfl (el 9 rfl en)))))))) ?_
    refine tri_block ?_
    refine tri_range (ι := Nat) (κ := Unit) (f := 121) (Caps := [T.fp (T.Tr D L ts a b k), T.fp (T.l (cZi k) s), T.fp (T.Q (ptT D L ts s (n - 1) s.length) 15100000000)]) (R := T.tup []) (g' := [(5, T.p 11 0), (6, T.p 12 0), (7, T.p 13 0), (8, T.p 14 0), (11, T.p 710 0)]) (fun j => [(11, some (Ent.box 3 [T.c (.int .i64 (mo : Int))])), (12, some (Ent.box 23 [T.c (.slice none 0 0)])), (13, some (Ent.box 4 [T.c (.bool false)])), (14, some (Ent.box 41 [T.c (.int .i64 0)])), (9, some (Ent.row (cZ k) 32 (kl (ctT D L ts s (n - 1) (n - 1 - s.length) s.length) j))), (710, some (Ent.box 23 [T.o 9]))]) (fun _ => [(11, some (Ent.box 3 [T.c (.int .i64 (mo : Int))])), (12, some (Ent.box 23 [T.o 9])), (13, some (Ent.box 4 [T.c (.bool false)])), (14, some (Ent.box 41 [T.c (.int .i64 0)])), (9, some (Ent.row (cZ k) 32 (kl (ctT D L ts s (n - 1) (n - 1 - s.length) s.length) mo))), (710, some (Ent.box 23 [T.o 9]))]) (fun _ => .ret) (fun j X o => j < m ∧ X = (T.Ch (nth (ctT D L ts s (n - 1) (n - 1 - s.length) s.length) j) k (ptT D L ts (s ++ [nth (ctT D L ts s (n - 1) (n - 1 - s.length) s.length) j]) (n - 1) (s.length + 1)) 15100000000) ∧ o = .inl (j + 1)) (0) (.inl m) rfl hcx rfl (by intro a w; kernel_rfl) (by decide) (sl 5 rfl (sl 6 rfl (sl 7 rfl (sl 8 rfl (sl 11 rfl sn))))) (el 11 rfl (el 12 rfl (el 13 rfl (el 14 rfl (el 9 rfl (el 710 rfl en)))))) ?_ ?_ ?_ ?_
    · intro lw W V hW
      exact t_kids1 (Z := W) (zf := W m) (K := m) h hb hs hz (fun j hj => hx j (by omega)) (fun j hj => hw j (by omega)) (fun j hj => hW j _ (.inl (j + 1)) ⟨hj, rfl, rfl⟩) (.inl ⟨hn, rfl⟩)
    · rintro j X o ⟨_, rfl, _⟩ <;> rfl
    · rintro lr dB rr c' hrd hdf hcx' j X o ⟨hj, rfl, rfl⟩
      · have hkl := @kl_len (ctT D L ts s (n - 1) (n - 1 - s.length) s.length) j
        refine tri_reg mixed hcx' ?_ _ _
        refine nw 910 zeCh ?_
        refine sts rfl rfl rfl tyCh rfl ?_
        refine ⟨by kernel_rfl, ?_⟩
        refine nx_begin hrd rfl (sl 5 rfl (sl 6 rfl (sl 7 rfl (sl 8 rfl (sl 11 rfl (sl 12 rfl sn)))))) (el 702 rfl (el 701 rfl (el 11 rfl (el 12 rfl (el 13 rfl (el 14 rfl (el 9 rfl (el 710 rfl (el 910 rfl en))))))))) ?_
        refine tri_block ?_
        refine tri_seq ?_
        refine tri_seq ?_
        refine tri_reg mixed hcx' ?_ _ _
        refine ld rfl rfl tyZs rfl ?_
        refine lno slZs rfl rfl ?_
        refine ld rfl rfl tyI rfl ?_
        refine ceq rfl rfl (decide_eq_false (by omega)) ?_
        refine ⟨by kernel_rfl, ?_⟩
        refine nx (sl 6 rfl (sl 7 rfl (sl 8 rfl (sl 11 rfl (sl 12 rfl (sl 40 rfl sn)))))) (el 702 rfl (el 701 rfl (el 11 rfl (el 12 rfl (el 13 rfl (el 14 rfl (el 9 rfl (el 710 rfl (el 910 rfl en))))))))) ?_
        refine tri_false rfl rfl ?_
        refine tri_skip ?_
        refine nx (sl 11 rfl (sl 12 rfl sn)) (el 702 rfl (el 701 rfl (el 11 rfl (el 12 rfl (el 13 rfl (el 14 rfl (el 9 rfl (el 710 rfl (el 910 rfl en))))))))) ?_
        refine tri_reg mixed hcx' ?_ _ _
        refine ld rfl rfl tyZs rfl ?_
        refine fa rfl fChx 0 ?_
        refine ld rfl rfl tyZ rfl ?_
        refine bs (c := cZ k) (xs := [nth (ctT D L ts s (n - 1) (n - 1 - s.length) s.length) j]) slZs rfl ⟨.refl _, trivial⟩ ?_
        refine ap 1214 rfl rfl rfl slZs (by simp only [List.length_cons, List.length_nil]; omega) (by decide) ?_
        refine st rfl rfl rfl tyZs rfl ?_
        refine ⟨by kernel_rfl, ?_⟩
        refine pn_blk ?_
        refine pn_sub sn (el 702 rfl (el 701 rfl (el 11 rfl (el 12 rfl (el 13 rfl (el 14 rfl (el 1214 rfl (el 710 rfl en)))))))) ?_
        refine pn_renb (bl := [T.o 1214]) (bl' := [T.o 9]) 710 9 1214 rfl rfl ⟨.inr ⟨rfl, rfl⟩, trivial⟩ (by rw [hcx']; kernel_rfl) rfl ?_
        exact rq_go (el 702 rfl (el 701 rfl (el 11 rfl (el 12 rfl (el 13 rfl (el 14 rfl (ew 9 rfl (.of (by rw [kl_succ])) (el 710 rfl en))))))))
    · intro lr dB oo
      refine done_go ?_
      refine pn_blk ?_
      refine nx (sl 6 rfl (sl 7 rfl (sl 8 rfl (sl 11 rfl sn)))) (el 702 rfl (el 701 rfl (el 11 rfl (el 12 rfl (el 13 rfl (el 14 rfl (el 9 rfl (el 710 rfl en)))))))) ?_
      refine tri_seq ?_
      refine tri_reg mixed (show (cx.up.put dB).I = _ from hcx) ?_ _ _
      refine ld rfl rfl tyZs rfl ?_
      refine st rfl rfl rfl tyZs rfl ?_
      refine st rfl rfl rfl tyB rfl ?_
      refine st rfl rfl rfl tyE rfl ?_
      refine ⟨by kernel_rfl, ?_⟩
      refine nx (sl 6 rfl (sl 7 rfl (sl 8 rfl sn))) (el 702 rfl (el 701 rfl (el 11 rfl (el 12 rfl (el 13 rfl (el 14 rfl (el 9 rfl (el 710 rfl en)))))))) ?_
      refine tri_fz 9 rfl ?_
      refine tri_rdb (bl := [T.o 9]) (bl' := [T.l (cZ k) (kl (ctT D L ts s (n - 1) (n - 1 - s.length) s.length) m)]) 12 9 rfl rfl ⟨.inr ⟨rfl, rfl⟩, trivial⟩ ?_
      refine tri_ret ?_
      repeat (first | refine pn_thenr ?_ | refine pn_blkr ?_)
      refine ret_M1 (.inl rfl) rfl rfl ?_
      exact ret3 hcx rfl (rv_cell (c' := cx) (n := 0) rfl rfl tyZs rfl) (rv_cell (c' := cx) (n := 0) rfl rfl tyB rfl) (rv_cell (c' := cx) (n := 0) rfl rfl tyE rfl) (tup_le ⟨.of (by rw [Nat.min_eq_left (by omega)]), .of (by rw [decide_eq_true hle]), .refl _, trivial⟩) en

theorem r11_Kids {D : List Int} {L : List (List Int)} {ts : List (Int × Int)} {a b : Int} {n k : Nat} (h : TrS D L ts n k) {s : List Int} {m mo : Nat} (hb : 0 < b) (hs : s.length + 1 ≤ n) (hx : ∀ j, j ≤ m → zl (nth (ctT D L ts s (n - 1) (n - 1 - s.length) s.length) j) ≤ k) (hw : ∀ j, j < m → ptT D L ts (s ++ [nth (ctT D L ts s (n - 1) (n - 1 - s.length) s.length) j]) (n - 1) (s.length + 1) ≤ (a : Rat) / (b : Rat)) (hn : ¬ ptT D L ts (s ++ [nth (ctT D L ts s (n - 1) (n - 1 - s.length) s.length) m]) (n - 1) (s.length + 1) ≤ (a : Rat) / (b : Rat)) (hmo : mo ≤ 65536) (hin : ptT D L ts s (n - 1) s.length ≤ (a : Rat) / (b : Rat)) : Fn Tryz.prog 23 [T.Tr D L ts a b k, T.l (cZi k) s, T.c (.int .i64 (mo : Int))] [] [] [] (T.tup [T.l (cZ k) (kl (ctT D L ts s (n - 1) (n - 1 - s.length) s.length) (min m mo)), T.c (.bool (decide (m ≤ mo)))]) := by
  refine fn_of Tryz.func23 rfl (by show 3 ≤ 68; decide) fun cx hcx => ?_
  refine tri_sub (sl 0 rfl (sl 1 rfl (sl 2 rfl sn))) en ?_
  have hn12 := h.twelve
  have hkk := h.hk
  have hlL := h.len
  have hn0 := h.pos
  refine tri_lz 1 rfl fun hz => ?_
  refine tri_seq ?_
  refine tri_reg mixed hcx ?_ _ _
  refine bxs 10 rfl ?_
  refine asg rfl ?_
  refine asg rfl ?_
  refine ⟨by kernel_rfl, ?_⟩
  refine nx (sl 1 rfl (sl 2 rfl (sl 3 rfl sn))) (el 10 rfl en) ?_
  refine tri_seq ?_
  refine tri_reg mixed hcx ?_ _ _
  refine asg rfl ?_
  refine ⟨by kernel_rfl, ?_⟩
  refine nx (sl 1 rfl (sl 2 rfl (sl 3 rfl (sl 8 rfl sn)))) (el 10 rfl en) ?_
  refine tri_seq ?_
  refine tri_seq ?_
  refine tri_reg mixed hcx ?_ _ _
  refine ld rfl rfl tyTr rfl ?_
  refine mv rfl ?_
  refine ca rfl (h := r11_In h hb (by omega)) (hn := ?_)
  refine nt rfl _ (show (!decide _) = false from by rw [decide_eq_true hin]; rfl) ?_
  refine ⟨by kernel_rfl, ?_⟩
  refine nx (sl 1 rfl (sl 2 rfl (sl 3 rfl (sl 8 rfl (sl 19 rfl sn))))) (el 10 rfl en) ?_
  refine tri_false rfl rfl ?_
  refine tri_skip ?_
  refine nx (sl 1 rfl (sl 2 rfl (sl 3 rfl (sl 8 rfl sn)))) (el 10 rfl en) ?_
  refine tri_seq ?_
  refine tri_reg mixed hcx ?_ _ _
  refine ld rfl rfl tyTr rfl ?_
  refine mv rfl ?_
  refine ca rfl (h := r11_Centre h (by omega)) (hn := ?_)
  refine nw 413 zeQ ?_
  refine st rfl rfl rfl tyQ rfl ?_
  refine ⟨by kernel_rfl, ?_⟩
  refine nx (sl 1 rfl (sl 2 rfl (sl 3 rfl (sl 8 rfl (sl 9 rfl sn))))) (el 10 rfl (el 413 rfl en)) ?_
  refine tri_seq ?_
  refine tri_reg mixed hcx ?_ _ _
  refine ld rfl rfl tyTr rfl ?_
  refine mv rfl ?_
  refine ca rfl (h := r11_Part h (by omega)) (hn := ?_)
  refine nw 513 zeQ ?_
  refine st rfl rfl rfl tyQ rfl ?_
  refine ⟨by kernel_rfl, ?_⟩
  refine nx (sl 1 rfl (sl 2 rfl (sl 3 rfl (sl 8 rfl (sl 9 rfl (sl 10 rfl sn)))))) (el 10 rfl (el 413 rfl (el 513 rfl en))) ?_
  refine tri_seq ?_
  refine tri_reg mixed hcx ?_ _ _
  refine fa rfl fTrG 0 ?_
  refine ld rfl rfl tyG rfl ?_
  refine fa rfl fTrG 0 ?_
  refine fa rfl fL 1 ?_
  refine ld rfl rfl tyZss rfl ?_
  refine ln slZss rfl ?_
  refine sb (((n - 1 : Nat) : Int)) rfl rfl rfl (by omega) ?_
  refine mv rfl ?_
  refine ln slZs rfl ?_
  refine sb (((n - 1 - s.length : Nat) : Int)) rfl rfl rfl (by omega) ?_
  refine ca rfl (h := r05_Star (k := k) (i := n - 1 - s.length) (by omega) (by omega) h.good (by omega)) (hn := ?_)
  refine nw 621 zeQ ?_
  refine st rfl rfl rfl tyQ rfl ?_
  refine ⟨by kernel_rfl, ?_⟩
  refine nx (sl 2 rfl (sl 3 rfl (sl 8 rfl (sl 9 rfl (sl 10 rfl (sl 11 rfl sn)))))) (el 10 rfl (el 413 rfl (el 513 rfl (el 621 rfl en)))) ?_
  refine tri_seq ?_
  refine tri_nil 8 9 32 (cZ k) rfl (by rw [hcx]; kernel_rfl) ?_
  refine tri_reg mixed hcx ?_ _ _
  refine asg rfl ?_
  refine ⟨by kernel_rfl, ?_⟩
  refine nx (sl 2 rfl (sl 3 rfl (sl 8 rfl (sl 9 rfl (sl 10 rfl (sl 11 rfl (sl 12 rfl sn))))))) (el 10 rfl (el 413 rfl (el 513 rfl (el 621 rfl (el 9 rfl en))))) ?_
  refine tri_block ?_
  refine tri_loop (ι := Nat) (fun j => [(2, T.c (.int .i64 (mo : Int))), (3, T.p 10 0), (8, T.o 9), (9, T.p 413 0), (10, T.p 513 0), (11, T.p 621 0), (12, T.c (.int .i64 (j : Int)))]) (fun j => [(10, some (Ent.box 39 [T.l (cZi k) D, T.l (cL (cZi k)) L, T.l (cQi k) ts, T.Zi a k, T.Zi b k])), (413, some (Ent.box 34 [T.Q (ctT D L ts s (n - 1) (n - 1 - s.length) s.length) 600000000])), (513, some (Ent.box 34 [T.Q (ptT D L ts s (n - 1) s.length) 15100000000])), (621, some (Ent.box 34 [T.Q (stq D (n - 1 - s.length)) (k + k)])), (9, some (Ent.row (cZ k) 32 (kl (ctT D L ts s (n - 1) (n - 1 - s.length) s.length) j)))]) (fun j => m + 1 - j) (fun j => (j ≤ m) ∧ (j ≤ mo)) 0 ⟨Nat.zero_le _, Nat.zero_le _⟩ (sl 2 rfl (sl 3 rfl (sl 8 rfl (sl 9 rfl (sl 10 rfl (sl 11 rfl (sl 12 rfl sn))))))) (el 10 rfl (el 413 rfl (el 513 rfl (el 621 rfl (el 9 rfl en))))) ?_
  rintro j ⟨hj, hjo⟩
  refine tri_sub (sl 2 rfl (sl 3 rfl (sl 8 rfl (sl 9 rfl (sl 10 rfl (sl 11 rfl (sl 12 rfl sn))))))) (el 10 rfl (el 413 rfl (el 513 rfl (el 621 rfl (el 9 rfl en))))) ?_
  have hkl := @kl_len (ctT D L ts s (n - 1) (n - 1 - s.length) s.length) j
  have hqe := pt_snoc D L ts s (n - 1) (nth (ctT D L ts s (n - 1) (n - 1 - s.length) s.length) j)
  have hmn : j < m ∨ j = m := by omega
  refine tri_seq ?_
  refine tri_block ?_
  refine tri_seq ?_
  refine tri_reg mixed hcx ?_ _ _
  refine ld rfl rfl tyQ rfl ?_
  refine mv rfl ?_
  refine cb rfl (h := fn_out (r11_NthV (c := ctT D L ts s (n - 1) (n - 1 - s.length) s.length) (k := 600000000) (n := j) (by omega) (by omega)) (z_as (hx j (by omega)))) (hn := ?_)
  refine nw 913 zeZ ?_
  refine st rfl rfl rfl tyZ rfl ?_
  refine ⟨by kernel_rfl, ?_⟩
  refine nx (sl 2 rfl (sl 3 rfl (sl 8 rfl (sl 9 rfl (sl 10 rfl (sl 11 rfl (sl 12 rfl (sl 13 rfl sn)))))))) (el 10 rfl (el 413 rfl (el 513 rfl (el 621 rfl (el 9 rfl (el 913 rfl en)))))) ?_
  refine tri_seq ?_
  refine tri_reg mixed hcx ?_ _ _
  refine ld rfl rfl tyZ rfl ?_
  refine ca rfl (h := r03_Of (by omega)) (hn := ?_)
  refine ld rfl rfl tyQ rfl ?_
  refine cb rfl (h := r3v_Sub (by omega) (by omega)) (hn := ?_)
  refine nw 1014 zeQ ?_
  refine st rfl rfl rfl tyQ rfl ?_
  refine ⟨by kernel_rfl, ?_⟩
  refine nx (sl 2 rfl (sl 3 rfl (sl 8 rfl (sl 9 rfl (sl 10 rfl (sl 11 rfl (sl 12 rfl (sl 13 rfl (sl 14 rfl sn))))))))) (el 10 rfl (el 413 rfl (el 513 rfl (el 621 rfl (el 9 rfl (el 913 rfl (el 1014 rfl en))))))) ?_
  refine tri_seq ?_
  refine tri_reg mixed hcx ?_ _ _
  refine ld rfl rfl tyQ rfl ?_
  refine ld rfl rfl tyQ rfl ?_
  refine ld rfl rfl tyQ rfl ?_
  refine cb rfl (h := r3v_Mul (by omega) (by omega)) (hn := ?_)
  refine ld rfl rfl tyQ rfl ?_
  refine cb rfl (h := r3v_Mul (by omega) (by omega)) (hn := ?_)
  refine cb rfl (h := r3v_Add (by omega) (by omega)) (hn := ?_)
  refine nw 1117 zeQ ?_
  refine st rfl rfl rfl tyQ rfl ?_
  refine ⟨by kernel_rfl, ?_⟩
  refine nx (sl 2 rfl (sl 3 rfl (sl 8 rfl (sl 9 rfl (sl 10 rfl (sl 11 rfl (sl 12 rfl (sl 13 rfl (sl 15 rfl sn))))))))) (el 10 rfl (el 413 rfl (el 513 rfl (el 621 rfl (el 9 rfl (el 913 rfl (el 1014 rfl (el 1117 rfl en)))))))) ?_
  refine tri_seq ?_
  refine tri_seq ?_
  rcases hmn with hlt | heq
  · have hq1 : sg ((ptT D L ts s (n - 1) s.length + (((nth (ctT D L ts s (n - 1) (n - 1 - s.length) s.length) j : Int) : Rat) - ctT D L ts s (n - 1) (n - 1 - s.length) s.length) * (((nth (ctT D L ts s (n - 1) (n - 1 - s.length) s.length) j : Int) : Rat) - ctT D L ts s (n - 1) (n - 1 - s.length) s.length) * stq D (n - 1 - s.length)) - (a : Rat) / (b : Rat)).num ≤ 0 := sgq_le.2 (by rw [hqe]; exact hw j hlt)
    refine tri_reg mixed hcx ?_ _ _
    refine ld rfl rfl tyQ rfl ?_
    refine fa rfl fTrR 3 ?_
    refine ld rfl rfl tyQ rfl ?_
    refine cb rfl (h := r3v_Cmp (by omega) (by omega)) (hn := ?_)
    refine cgt rfl rfl (decide_eq_false (by omega)) ?_
    refine ⟨by kernel_rfl, ?_⟩
    refine nx (sl 2 rfl (sl 3 rfl (sl 8 rfl (sl 9 rfl (sl 10 rfl (sl 11 rfl (sl 12 rfl (sl 13 rfl (sl 57 rfl sn))))))))) (el 10 rfl (el 413 rfl (el 513 rfl (el 621 rfl (el 9 rfl (el 913 rfl (el 1014 rfl (el 1117 rfl en)))))))) ?_
    refine tri_false rfl rfl ?_
    refine tri_skip ?_
    refine nx (sl 2 rfl (sl 3 rfl (sl 8 rfl (sl 9 rfl (sl 10 rfl (sl 11 rfl (sl 12 rfl (sl 13 rfl sn)))))))) (el 10 rfl (el 413 rfl (el 513 rfl (el 621 rfl (el 9 rfl (el 913 rfl (el 1014 rfl (el 1117 rfl en)))))))) ?_
    refine tri_seq ?_
    refine tri_seq ?_
    rcases Nat.lt_or_ge j mo with hm2 | hm2
    · refine tri_reg mixed hcx ?_ _ _
      refine mv rfl ?_
      refine lno slZs rfl rfl ?_
      refine mv rfl ?_
      refine cge rfl rfl (decide_eq_false (by omega)) ?_
      refine ⟨by kernel_rfl, ?_⟩
      refine nx (sl 2 rfl (sl 3 rfl (sl 8 rfl (sl 9 rfl (sl 10 rfl (sl 11 rfl (sl 12 rfl (sl 13 rfl (sl 62 rfl sn))))))))) (el 10 rfl (el 413 rfl (el 513 rfl (el 621 rfl (el 9 rfl (el 913 rfl (el 1014 rfl (el 1117 rfl en)))))))) ?_
      refine tri_false rfl rfl ?_
      refine tri_skip ?_
      refine nx (sl 2 rfl (sl 3 rfl (sl 8 rfl (sl 9 rfl (sl 10 rfl (sl 11 rfl (sl 12 rfl (sl 13 rfl sn)))))))) (el 10 rfl (el 413 rfl (el 513 rfl (el 621 rfl (el 9 rfl (el 913 rfl (el 1014 rfl (el 1117 rfl en)))))))) ?_
      refine tri_reg mixed hcx ?_ _ _
      refine mv rfl ?_
      refine ld rfl rfl tyZ rfl ?_
      refine bs (c := cZ k) (xs := [nth (ctT D L ts s (n - 1) (n - 1 - s.length) s.length) j]) slZs rfl ⟨z_as (hx j (by omega)), trivial⟩ ?_
      refine ap 1613 rfl rfl rfl slZs (by simp only [List.length_cons, List.length_nil]; omega) (by decide) ?_
      refine asg rfl ?_
      refine ⟨by kernel_rfl, ?_⟩
      refine pn_blk ?_
      refine nx (sl 2 rfl (sl 3 rfl (sl 8 rfl (sl 9 rfl (sl 10 rfl (sl 11 rfl (sl 12 rfl sn))))))) (el 10 rfl (el 413 rfl (el 513 rfl (el 621 rfl (el 913 rfl (el 1014 rfl (el 1117 rfl (el 1613 rfl en)))))))) ?_
      refine tri_reg mixed hcx ?_ _ _
      refine mv rfl ?_
      refine ad (((j + 1 : Nat) : Int)) rfl rfl rfl (by omega) ?_
      refine asg rfl ?_
      refine ⟨by kernel_rfl, ?_⟩
      refine pn_sub (sl 2 rfl (sl 3 rfl (sl 8 rfl (sl 9 rfl (sl 10 rfl (sl 11 rfl (sl 12 rfl sn))))))) (el 10 rfl (el 413 rfl (el 513 rfl (el 621 rfl (el 913 rfl (el 1014 rfl (el 1117 rfl (el 1613 rfl en)))))))) ?_
      refine pn_ren 8 9 1613 rfl rfl (by rw [hcx]; kernel_rfl) ?_
      exact pn_back (j + 1) (by first | omega | (dsimp only; omega)) ⟨by omega, by omega⟩ (sl 2 rfl (sl 3 rfl (sl 8 rfl (sl 9 rfl (sl 10 rfl (sl 11 rfl (sl 12 rfl sn))))))) (el 10 rfl (el 413 rfl (el 513 rfl (el 621 rfl (ew 9 rfl (.of (by rw [kl_succ])) en)))))
    · obtain rfl : j = mo := by omega
      refine tri_reg mixed hcx ?_ _ _
      refine mv rfl ?_
      refine lno slZs rfl rfl ?_
      refine mv rfl ?_
      refine cge rfl rfl (decide_eq_true (by omega)) ?_
      refine ⟨by kernel_rfl, ?_⟩
      refine nx (sl 2 rfl (sl 3 rfl (sl 8 rfl (sl 9 rfl (sl 10 rfl (sl 11 rfl (sl 12 rfl (sl 13 rfl (sl 62 rfl sn))))))))) (el 10 rfl (el 413 rfl (el 513 rfl (el 621 rfl (el 9 rfl (el 913 rfl (el 1014 rfl (el 1117 rfl en)))))))) ?_
      refine tri_true rfl rfl ?_
      refine tri_seq ?_
      refine tri_reg mixed hcx ?_ _ _
      refine mv rfl ?_
      refine asg rfl ?_
      refine asg rfl ?_
      refine ⟨by kernel_rfl, ?_⟩
      refine nx (sl 6 rfl (sl 7 rfl sn)) (el 10 rfl (el 413 rfl (el 513 rfl (el 621 rfl (el 9 rfl (el 913 rfl (el 1014 rfl (el 1117 rfl en)))))))) ?_
      refine tri_fz 9 rfl ?_
      refine tri_rd 6 9 rfl rfl ?_
      refine tri_ret ?_
      repeat (first | refine pn_thenr ?_ | refine pn_blkr ?_)
      exact ret2 hcx rfl (rv_tmp rfl) (rv_tmp rfl) (tup_le ⟨.of (by rw [Nat.min_eq_right (by omega)]), .of (by rw [decide_eq_false (by omega)]), trivial⟩) en
  · have hq1 : 0 < sg ((ptT D L ts s (n - 1) s.length + (((nth (ctT D L ts s (n - 1) (n - 1 - s.length) s.length) j : Int) : Rat) - ctT D L ts s (n - 1) (n - 1 - s.length) s.length) * (((nth (ctT D L ts s (n - 1) (n - 1 - s.length) s.length) j : Int) : Rat) - ctT D L ts s (n - 1) (n - 1 - s.length) s.length) * stq D (n - 1 - s.length)) - (a : Rat) / (b : Rat)).num := by rw [hqe]; exact sgq_gt (Rat.not_le.1 (by rw [heq]; exact hn))
    refine tri_reg mixed hcx ?_ _ _
    refine ld rfl rfl tyQ rfl ?_
    refine fa rfl fTrR 3 ?_
    refine ld rfl rfl tyQ rfl ?_
    refine cb rfl (h := r3v_Cmp (by omega) (by omega)) (hn := ?_)
    refine cgt rfl rfl (decide_eq_true (by omega)) ?_
    refine ⟨by kernel_rfl, ?_⟩
    refine nx (sl 2 rfl (sl 3 rfl (sl 8 rfl (sl 9 rfl (sl 10 rfl (sl 11 rfl (sl 12 rfl (sl 13 rfl (sl 57 rfl sn))))))))) (el 10 rfl (el 413 rfl (el 513 rfl (el 621 rfl (el 9 rfl (el 913 rfl (el 1014 rfl (el 1117 rfl en)))))))) ?_
    refine tri_true rfl rfl ?_
    refine tri_seq ?_
    refine tri_reg mixed hcx ?_ _ _
    refine mv rfl ?_
    refine asg rfl ?_
    refine asg rfl ?_
    refine ⟨by kernel_rfl, ?_⟩
    refine nx (sl 6 rfl (sl 7 rfl sn)) (el 10 rfl (el 413 rfl (el 513 rfl (el 621 rfl (el 9 rfl (el 913 rfl (el 1014 rfl (el 1117 rfl en)))))))) ?_
    refine tri_fz 9 rfl ?_
    refine tri_rd 6 9 rfl rfl ?_
    refine tri_ret ?_
    repeat (first | refine pn_thenr ?_ | refine pn_blkr ?_)
    exact ret2 hcx rfl (rv_tmp rfl) (rv_tmp rfl) (tup_le ⟨.of (by rw [heq, Nat.min_eq_left (by omega)]), .of (by rw [decide_eq_true (by omega)]), trivial⟩) en

theorem TrS.mono {D : List Int} {L : List (List Int)} {ts : List (Int × Int)} {n k K : Nat} (h : TrS D L ts n k) (hk : k ≤ K) (hK : K ≤ 16777216) : TrS D L ts n K where
  good := h.good
  len := h.len
  twelve := h.twelve
  tl := h.tl
  tp := h.tp
  zt := fun i hi => ⟨Nat.le_trans (h.zt i hi).1 hk, Nat.le_trans (h.zt i hi).2 hk⟩
  zD := fun j => Nat.le_trans (h.zD j) hk
  zL := fun i j => Nat.le_trans (h.zL i j) hk
  hk := hK
theorem tr_mono {D : List Int} {L : List (List Int)} {ts : List (Int × Int)} {a b : Int} {k K : Nat} (hk : k ≤ K) : (T.Tr D L ts a b k).le (T.Tr D L ts a b K) := st_le ⟨tl_le (fun _ => zi_mono hk) _, tl_le (fun _ => tl_le (fun _ => zi_mono hk) _) _, tl_le (fun q => st_le (l := [T.Zi q.1 k, T.Zi q.2 k]) (l' := [T.Zi q.1 K, T.Zi q.2 K]) ⟨zi_mono hk, zi_mono hk, trivial⟩) _, zi_mono hk, zi_mono hk, trivial⟩

theorem cells_qz3 {k : Nat} {u : World} : ∀ {l : List (Int × Int)} {cs : List Value}, Cells B0 u (l.map (cQi k).X) cs → ∀ q ∈ l, zl q.1 ≤ k ∧ zl q.2 ≤ k
  | [], _, _, q, h => by cases h
  | a :: r, cs, ⟨v, rest, _, ⟨ys, _, v1, r1, _, h1, _, v2, r2, _, h3, _⟩, _, h2⟩, q, h => by
    rcases List.mem_cons.1 h with rfl | h
    · exact ⟨zi_zl h1, zi_zl h3⟩
    · exact cells_qz3 h2 q h
theorem l_qz3 {k : Nat} {β : Env} {u : World} {l : List (Int × Int)} {v : Value} (h : (T.l (cQi k) l).rep β u v) : ∀ q ∈ l, zl q.1 ≤ k ∧ zl q.2 ≤ k := fun q hq => by
  obtain ⟨A, n, c, _, h1, _, _, h4⟩ := h
  have hp : 0 < n := by rw [← h1]; exact List.length_pos_of_mem hq
  obtain ⟨ad, _, xs, h5, _⟩ := h4 hp
  exact cells_qz3 h5 q hq
/-- The sizes of a tree's numbers. -/
structure TrZ (D : List Int) (L : List (List Int)) (ts : List (Int × Int)) (a b : Int) (k : Nat) : Prop where
  zD : ∀ j, zl (D.getD j 0) ≤ k
  zL : ∀ i j, zl ((L.getD j []).getD i 0) ≤ k
  zt : ∀ i, i < ts.length → zl (ts.getD i (0, 0)).1 ≤ k ∧ zl (ts.getD i (0, 0)).2 ≤ k
  za : zl a ≤ k
theorem fn_trz {P : Program} {f : FuncId} {R : T} {As : List T} {D : List Int} {L : List (List Int)} {ts : List (Int × Int)} {a b : Int} {k : Nat} {Ei Eo : List (Nat × Ent)} {N : List Nat} (h : TrZ D L ts a b k → Fn P f (T.Tr D L ts a b k :: As) Ei Eo N R) : Fn P f (T.Tr D L ts a b k :: As) Ei Eo N R := fun vs β u w F hs hr hH => by
  match vs, hr with
  | v0 :: r, ⟨r0, r1⟩ =>
    have r0' := r0
    obtain ⟨cs, _, v1, s1, _, a1, _, v2, s2, _, a2, _, v3, s3, _, a3, _, v4, s4, _, a4, _⟩ := r0'
    exact h ⟨getD_zl (l_zl a1), ll_zl a2, fun i hi => l_qz3 a3 (ts.getD i (0, 0)) (by rw [List.getD_eq_getElem?_getD, List.getElem?_eq_getElem hi]; exact List.getElem_mem hi), zi_zl a4⟩ _ β u w F hs ⟨r0, r1⟩ hH
theorem TrV.trs {D : List Int} {L : List (List Int)} {ts : List (Int × Int)} {a b : Int} {k : Nat} (h : TrV D L ts a b) (z : TrZ D L ts a b k) (hk : k ≤ 16777216) : TrS D L ts L.length k := ⟨h.1, rfl, h.2.1, h.2.2.1, h.2.2.2.1, z.zt, z.zD, z.zL, hk⟩

end Go.Proofs.YtekghdfbhbhigaaGreat.V
/- A logic of calls: code that holds a label, gone through without a jump to it. -/
set_option linter.unusedVariables false
set_option linter.unusedSimpArgs false
namespace Go.Proofs.YtekghdfbhbhigaaGreat.V
open Go.RowKit
section
variable {P : Program} {Q : Exit → Act → World → Prop} {c : Ctx} {n : Nat} {g : List (Nat × T)} {E : List (Nat × Option Ent)} {x : Code}
end
end Go.Proofs.YtekghdfbhbhigaaGreat.V
/- Search trees: the nodes, in their order. -/
set_option linter.unusedVariables false
set_option linter.unusedSimpArgs false
set_option maxRecDepth 100000
namespace Go.Proofs.YtekghdfbhbhigaaGreat.V
open Go.RowKit Mt Nml
end Go.Proofs.YtekghdfbhbhigaaGreat.V
/- Search trees: what a node begins with is a node. -/
set_option linter.unusedVariables false
set_option linter.unusedSimpArgs false
set_option maxRecDepth 100000
namespace Go.Proofs.YtekghdfbhbhigaaGreat.V
open Go.RowKit Mt Nml
theorem take_atN {l : List (List Int)} {i m : Nat} (h : i < (l.take m).length) : (l.take m).getD i [] = l.getD i [] := by
  rw [List.length_take] at h
  simp only [List.getD_eq_getElem?_getD, List.getElem?_take]
  rw [if_pos (by omega)]
theorem getD_mem' {l : List (List Int)} {i : Nat} (h : i < l.length) : l.getD i [] ∈ l := by
  rw [List.getD_eq_getElem?_getD, List.getElem?_eq_getElem h]
  exact List.getElem_mem h
/-- What is so of each of the first nodes. -/
theorem Bel.first {D : List Int} {L : List (List Int)} {ts : List (Int × Int)} {n k mo : Nat} {R : Rat} {ns : List (List Int)} (h : Bel D L ts n k R [] 0 ns) {i : Nat} (hi : i < (ns.take mo).length) : Nd D L ts n k R [] ((ns.take mo).getD i []) ∧ Lnk (if i = 0 then [] else (ns.take mo).getD (i - 1) []) ((ns.take mo).getD i []) := by
  have hz : ∀ j, Nml.zl (([] : List Int).getD j 0) ≤ k := fun j => by rw [show (([] : List Int)).getD j 0 = 0 from by simp, zl_zero]; exact Nat.zero_le _
  have hl : i < ns.length := by rw [List.length_take] at hi; omega
  have h1 := h.mem rfl hz _ (getD_mem' hl)
  have h2 := chn_at (h.chn rfl hz) i hl
  rw [take_atN hi]
  refine ⟨h1, ?_⟩
  split
  · rename_i h0
    subst h0
    exact h2
  · rename_i h0
    rw [take_atN (by omega)]
    rwa [if_neg h0] at h2
end Go.Proofs.YtekghdfbhbhigaaGreat.V
/- A logic of calls: slices without room behind them, and rows that one may append to. -/
set_option linter.unusedVariables false
set_option linter.unusedSimpArgs false
namespace Go.Proofs.YtekghdfbhbhigaaGreat.V
open Go.RowKit
/-- A slice that stands, without room behind it. -/
def T.lx {α : Type} (c : Cod α) (l : List α) : T := ⟨[], 1, false, fun _ u v => (T.l c l).rep B0 u v ∧ ∃ A, v = .slice A l.length l.length,
  fun ⟨_, A, e⟩ _ => by subst e; exact ⟨⟨rfl, rfl⟩, rfl⟩, fun hs ⟨h1, h2⟩ => ⟨(T.l c l).mono hs h1, h2⟩, fun _ h => h⟩
/-- A row of one's own, or a slice without room. -/
def Ent.ap {α : Type} (c : Cod α) (e : TypeId) (l : List α) : Ent := ⟨[], fun β u w v F => (Ent.row c e l).hold β u w v F ∨ ((∀ k, ¬ F k) ∧ (T.lx c l).rep B0 u v),
  fun hs h => by
    rcases h with h | ⟨h1, h2⟩
    · exact .inl ((Ent.row c e l).mono hs h)
    · exact .inr ⟨h1, (T.lx c l).mono hs h2⟩, fun _ h => h, fun hl h => by
    rcases h with h | ⟨h1, h2⟩
    · exact .inl ((Ent.row c e l).loc hl h)
    · exact .inr ⟨h1, h2⟩⟩
theorem row_ap {α : Type} {c : Cod α} {e : TypeId} {l : List α} : (Ent.row c e l).le (Ent.ap c e l) := fun _ _ _ _ _ h => .inl h
section
variable {α : Type} {c : Cod α} {P : Program} {u w : World} {t e : TypeId} {bytes : Nat}
/-- append to a slice without room. -/
theorem run_append_x (hT : SlT P t e c.sz bytes) {v y : Value} {l ys : List α} {ty : TypeId} (hx : (T.lx c l).rep B0 u v) (hy : (T.l c ys).rep B0 u y) (hs : Sub u w) (hb : (l.length + ys.length) * bytes ≤ 140737488355328) (h0 : 0 < bytes) :
    (ys = [] ∧ (Builtin.append_ #[t, t] ty #[v, y]).run P w = .ok v w) ∨
    ∃ v' w', (Builtin.append_ #[t, t] ty #[v, y]).run P w = .ok v' w' ∧ (∃ xs', w'.ownsRow 0 e c.sz v' (l ++ ys).length xs' ∧ Els c (l ++ ys) u xs') ∧ w.grownBy w' none ∧ v'.ownBlock = some w.heap.size ∧ ∃ A n k, v' = .slice A n k := by
  obtain ⟨ht, inf, z, hi, hz0, hz1, hz2, hzc⟩ := hT.info
  obtain ⟨⟨A0, n0, k0, ev0, q1, q2, q3, q4⟩, A, ev⟩ := hx
  rw [ev] at ev0
  cases ev0
  obtain ⟨B, m, cap, ey, hm, hmk, hcap, hcell⟩ := hy
  subst ey
  rcases Nat.eq_zero_or_pos m with h | h
  · subst h
    have hys : ys = [] := List.eq_nil_of_length_eq_zero hm
    subst hys
    refine .inl ⟨rfl, ?_⟩
    subst ev
    cases A0 <;> cases B <;> simp [Builtin.append_, run_underlying ht, sizeOf, typeInfo, hi, Builtin.lenOf, Builtin.firstCells, storeCells, loadCells, loadCellsFrom]
  · obtain ⟨ad, ea, zs, hEy, hst⟩ := hcell h
    subst ea
    have hmx : l.length + m ≤ maxLen := by
      have := Nat.le_trans (Nat.le_mul_of_pos_right _ h0) hb
      unfold maxLen; omega
    have h63 : l.length + m ≤ 9223372036854775807 := by unfold maxLen at hmx; omega
    have hzl : zs.length = m * inf.size := by rw [hEy.len, hm, hz1]
    have grown : ∀ (old : Nat) (xs : List Value), xs.length = l.length * inf.size → Els c l u xs →
      (∃ xs', (w.drew.alloc (.cells (xs.toArray ++ zs.toArray ++ Builtin.zeroCells z.cells (grownCap w (l.length + m) old e - (l.length + m))) e)).ownsRow 0 e c.sz
        (.slice (some ⟨w.heap.size, 0, none⟩) (l.length + m) (grownCap w (l.length + m) old e)) (l ++ ys).length xs' ∧ Els c (l ++ ys) u xs') ∧
      w.grownBy (w.drew.alloc (.cells (xs.toArray ++ zs.toArray ++ Builtin.zeroCells z.cells (grownCap w (l.length + m) old e - (l.length + m))) e)) none := by
      intro old xs hxl hE
      have hge := grownCap_ge w (l.length + m) old e
      have hcm : grownCap w (l.length + m) old e ≤ maxLen := grownCap_le_maxLen w (l.length + m) old e hmx
      have hlen : (xs ++ zs).length = (l.length + m) * c.sz := by rw [List.length_append, hxl, hzl, hz1, Nat.add_mul]
      rw [List.length_append, hm]
      refine ⟨⟨xs ++ zs, ⟨hlen, .inr ⟨w.heap.size, _, _, rfl, Nat.zero_le _, heap_alloc_new w.drew _, hge, hcm, ?_, ?_⟩⟩, hE.append hEy⟩, ⟨rfl, rfl, rfl, by simp, fun k hk _ => Go.heap_alloc_old w.drew _ hk⟩⟩
      · simp only [Array.size_append, List.size_toArray, size_zeroCells, hzc, hxl, hzl, hz1, ← Nat.add_mul]
        congr 1
        omega
      · simp only [Array.toList_append, List.append_assoc]
        rw [← List.append_assoc, ← hlen]
        exact List.take_left
    refine .inr ?_
    have hnews : ∀ j y, zs[j]? = some y → w.cell? (ad.add j) = some y := fun j y hy => hs _ _ (hst j y hy)
    subst ev
    cases A0 with
    | none =>
      have hl : l = [] := by
        cases l with
        | nil => rfl
        | cons a r => obtain ⟨ad, h, _⟩ := q4 (by simp); cases h
      subst hl
      have hr := run_append_nil (P := P) w t ty e inf z ht hi hz0 ad m cap zs hzl hnews h (by omega) (by rw [hz2]; have hb := hb; simp only [List.length_nil, Nat.zero_add] at hb; rw [hm] at hb; omega)
      have hg := grown 0 [] (by simp) rfl
      simp only [List.length_nil, Nat.zero_add, List.nil_append, Array.empty_append] at hg ⊢
      exact ⟨_, _, hr, hg.1, hg.2, rfl, _, _, _, rfl⟩
    | some b =>
      rcases Nat.eq_zero_or_pos l.length with hl | hl
      · have hl' : l = [] := List.eq_nil_of_length_eq_zero hl
        subst hl'
        have hr := run_append_grow (P := P) w t ty e inf z ht hi hz0 b 0 0 [] (by simp) (fun j v h => by simp at h) ad m cap zs hzl hnews (by omega) (by omega) (growslice_fits (by omega) (by rw [hz2]; rw [hm] at hb; simpa using hb))
        have hg := grown 0 [] (by simp) rfl
        exact ⟨_, _, hr, hg.1, hg.2, rfl, _, _, _, rfl⟩
      · obtain ⟨ad', e1, xs, hE, hst'⟩ := q4 hl
        cases e1
        have hr := run_append_grow (P := P) w t ty e inf z ht hi hz0 b l.length l.length xs (by rw [hE.len, hz1]) (fun j v h => hs _ _ (hst' j v h)) ad m cap zs hzl hnews (by omega) (by omega) (growslice_fits (by omega) (by rw [hz2, ← hm]; exact hb))
        have hg := grown l.length xs (by rw [hE.len, hz1]) hE
        exact ⟨_, _, hr, hg.1, hg.2, rfl, _, _, _, rfl⟩
end
section
variable {P : Program} {ops : Array Oper} {fin : List OpS → List (Nat × T) → List (Nat × Option Ent) → Prop} {r : List Oper} {H : List OpS} {g : List (Nat × T)} {E : List (Nat × Option Ent)} {o : Oper}
variable {t : Option Nat} {ty : TypeId} {ps : String} {af : Array Edge} {gd : Option (Nat × Bool)} {x y : Operand} {X Y : T} {e off m n : Nat} {b : Bool} {et : TypeId}
variable {α : Type} {c : Cod α} {xs ys : List α}
/-- xs[:hi:hi] of a slice that stands. -/
theorem sh3x {hi : Nat} {zh zm : Operand} {b' d' : Int} {kk' kk2 : IntKind} {τ : TypeId} {bytes : Nat} [hl : IsI X c xs] (hX : envl g x = some X) (hT : SlT P et τ c.sz bytes) (hhi : envl g zh = some (T.c (.int kk' b'))) (hmx : envl g zm = some (T.c (.int kk2 d'))) (hh : b' = (hi : Int) ∧ d' = (hi : Int) ∧ hi ≤ xs.length) (hn : J P ops fin r (OpS.p (T.lx c (xs.take hi)) :: H) (putg t (T.lx c (xs.take hi)) g) E) (hg : GuardIs ops g ⟨t, .slice et x none (some zh) (some zm), ty, ps, af, gd⟩ true := by exact gd0) : J P ops fin (⟨t, .slice et x none (some zh) (some zm), ty, ps, af, gd⟩ :: r) H g E :=
  j_val hg (ok_pure fun ρ β u w F hs he hH => by
    obtain ⟨rfl, rfl, h2⟩ := hh
    have hx := (T.l c xs).ext (β' := B0) (fun _ h => by cases h) (hl.le _ _ _ (he x (by simp [Op.operands]) _ hX))
    have hz : ρ zh = _ := he zh (by simp [Op.operands]) _ hhi
    have hz2 : ρ zm = _ := he zm (by simp [Op.operands]) _ hmx
    obtain ⟨A, n, k, ev, e1, e2, e3, e4⟩ := id hx
    obtain ⟨ht, inf, z, hi', hz0, hz1, hz2', hzc⟩ := hT.info
    have a2 : (0 : Int) ≤ hi ∧ (hi : Int) ≤ k := by omega
    have a3 : hi ≤ k := by omega
    rw [ev] at hx
    have := cut_rep (lo := 0) (B := A) hx (Nat.zero_le _) h2 (fun _ => by cases A <;> simp [Addr.add])
    obtain ⟨A', n', k', eq, q1, q2, q3, q4⟩ := this
    simp only [Nat.sub_zero] at eq
    cases eq
    have hlen : (xs.take hi).length = hi := by rw [List.length_take]; omega
    refine ⟨.slice A hi hi, ?_, ⟨A, hi, hi, rfl, q1, Nat.le_refl _, by omega, q4⟩, A, by rw [hlen]⟩
    simp [execOp, ev, hz, hz2, Instr.sliceAt, Instr.slice, run_underlying ht, Instr.sliceBounds, Instr.sliceBound, asIntOf, a2, a3, sizeOf, typeInfo, hi']
    cases A <;> simp [Addr.add]) hn
/-- append to a slice without room: one may append to what comes. -/
theorem apx {τ : TypeId} {bytes : Nat} (e' : Nat) [hl : IsL Y c ys] (hX : envl g x = some (T.lx c xs)) (hY : envl g y = some Y) (hT : SlT P et τ c.sz bytes) (hb : (xs.length + ys.length) * bytes ≤ 140737488355328) (h0 : 0 < bytes)
    (hn : J P ops fin r (⟨[], [], [(e', Ent.ap c τ (xs ++ ys))], [e'], T.o e'⟩ :: H) (putg t (T.o e') g) ((e', some (Ent.ap c τ (xs ++ ys))) :: E)) (hg : GuardIs ops g ⟨t, .call ⟨.builtin .append, #[x, y], #[et, et]⟩, ty, ps, af, gd⟩ true := by exact gd0) : J P ops fin (⟨t, .call ⟨.builtin .append, #[x, y], #[et, et]⟩, ty, ps, af, gd⟩ :: r) H g E :=
  j_new hg (fun ρ β u w F hs he hH => by
    have hx := he x (by simp [Op.operands, Call.operands]) _ hX
    have hy := (T.l c ys).ext (β' := B0) (fun _ h => by cases h) (hl.le _ _ _ (he y (by simp [Op.operands, Call.operands]) _ hY))
    rcases run_append_x (ty := ty) (u := u) (w := w) hT hx hy hs hb h0 with ⟨hys, hr⟩ | ⟨v', w', hr, ho, hgw, hv, hsl⟩
    · subst hys
      unfold Res
      simp only [execOp, resolve, invoke, builtin, Sem.run_bind, Sem.run_pure, Result.andThen_ok, List.map_toArray, List.map_cons, List.map_nil, hr]
      obtain ⟨A, ev⟩ := hx.2
      refine ⟨u, setE β e' (ρ x), fun _ _ => False, fun f hf => setE_ne _ _ (by simpa using hf), Tr.refl hs, hold1 (.inr ⟨fun _ h => h, ?_⟩) (fun k h => h.elim), fun f X k _ h => h.elim, (setE_same _ _ _).symm, A, _, _, ev⟩
      rw [setE_same, List.append_nil]
      exact hx
    · unfold Res
      simp only [execOp, resolve, invoke, builtin, Sem.run_bind, Sem.run_pure, Result.andThen_ok, List.map_toArray, List.map_cons, List.map_nil, hr]
      obtain ⟨u', β', F', k1, k2, k3, k4, k5⟩ := after_newrow (c := c) (l' := xs ++ ys) (β := β) (F := F) (e' := e') hs hgw ho (.inr hv) hsl
      refine ⟨u', β', F', k1, k2, hold1 (.inl (k3.hold e' _ lk1_same)) (fun k hk => k3.dead e' _ k lk1_same hk), fun f X k hX hk => ?_, k5⟩
      rw [lk_cons] at hX
      by_cases hf : e' = f
      · subst hf; exact k4 e' _ k lk1_same hk
      · rw [if_neg hf] at hX; cases hX) hn
/-- append to what one may append to. -/
theorem apa {τ : TypeId} {bytes : Nat} (e' : Nat) {y1 : α} [hl : IsL Y c [y1]] (hX : envl g x = some (T.o e)) (hE : lkE E e = some (Ent.ap c τ xs)) (hY : envl g y = some Y) (hT : SlT P et τ c.sz bytes) (hb : (xs.length + 1) * bytes ≤ 140737488355328) (h0 : 0 < bytes)
    (hn : J P ops fin r (⟨[], [e], [(e', Ent.row c τ (xs ++ [y1]))], [e'], T.o e'⟩ :: H) (putg t (T.o e') g) ((e', some (Ent.row c τ (xs ++ [y1]))) :: (e, none) :: E)) (hne : Nat.beq e' e = false := by rfl) (hg : GuardIs ops g ⟨t, .call ⟨.builtin .append, #[x, y], #[et, et]⟩, ty, ps, af, gd⟩ true := by exact gd0) : J P ops fin (⟨t, .call ⟨.builtin .append, #[x, y], #[et, et]⟩, ty, ps, af, gd⟩ :: r) H g E := by
  have hne' : e' ≠ e := fun h => by subst h; simp at hne
  refine ⟨⟨[], [e], [(e', Ent.row c τ (xs ++ [y1]))], [e'], T.o e'⟩, (e', some (Ent.row c τ (xs ++ [y1]))) :: (e, none) :: E, .inl ⟨hg, fun f he => ⟨Ent.ap c τ xs, by rw [show f = e from by simpa using he]; exact hE⟩, ?_⟩, fun f => ?_, hn⟩
  · have : (fun f => if f ∈ (OpS.mk [] [e] [(e', Ent.row c τ (xs ++ [y1]))] [e'] (T.o e')).uses ++ (OpS.mk [] [e] [(e', Ent.row c τ (xs ++ [y1]))] [e'] (T.o e')).cons then lkE E f else none) = lk [(e, Ent.ap c τ xs)] := funext fun f => by
      rw [lk_cons]
      by_cases h : e = f
      · subst h; rw [if_pos (by simp), if_pos rfl, hE]
      · rw [if_neg (by simp; exact fun h' => h h'.symm), if_neg h]; rfl
    rw [this]
    intro ρ β u w F hs he hH
    obtain ⟨h1, A, n, k, h2⟩ := he x (by simp [Op.operands, Call.operands]) _ hX
    have hy := (T.l c [y1]).ext (β' := B0) (fun _ h => by cases h) (hl.le _ _ _ (he y (by simp [Op.operands, Call.operands]) _ hY))
    rcases hH.hold e _ lk1_same with hrow | ⟨hF, hx⟩
    · have hH2 : Hold β u w F (lk [(e, Ent.row c τ xs)]) := hold1 hrow (fun k hk => hH.dead e _ k lk1_same hk)
      obtain ⟨zs, k1, k2, k3⟩ := hrow
      rw [← h1] at k1
      obtain ⟨v', w', hr, ho, hgw, hv, hsl⟩ := run_append (ty := ty) hT k1 k2 hy hs hb h0
      unfold Res
      simp only [execOp, resolve, invoke, builtin, Sem.run_bind, Sem.run_pure, Result.andThen_ok, List.map_toArray, List.map_cons, List.map_nil, hr]
      exact after_row hH2 hs (by rw [← h1]; exact hgw) ho (by rw [← h1]; exact hv) (β' := setE β e' v') (fun f hf => setE_ne _ _ (by simpa using hf)) (setE_same _ _ _) ⟨(setE_same _ _ _).symm, hsl⟩
    · rw [← h1] at hx
      rcases run_append_x (ty := ty) (u := u) (w := w) hT hx hy hs hb h0 with ⟨hys, _⟩ | ⟨v', w', hr, ho, hgw, hv, hsl⟩
      · cases hys
      · unfold Res
        simp only [execOp, resolve, invoke, builtin, Sem.run_bind, Sem.run_pure, Result.andThen_ok, List.map_toArray, List.map_cons, List.map_nil, hr]
        obtain ⟨u', β', F', k1, k2, k3, k4, k5⟩ := after_newrow (c := c) (l' := xs ++ [y1]) (β := β) (F := F) (e' := e') hs hgw ho (.inr hv) hsl
        refine ⟨u', β', F', k1, k2.weak (fun k hk => by obtain ⟨f, hf, _⟩ := hk; cases hf), k3, fun f X k hX hk => ?_, k5⟩
        rcases k4 f X k hX hk with ⟨f', hf', _⟩ | h
        · cases hf'
        · exact .inr h
  · unfold lkE OpS.upd
    rw [lk_cons, lk_cons, lk_cons]
    by_cases h : e' = f
    · rw [if_pos h, if_pos h]; rfl
    · rw [if_neg h, if_neg h]
      show _ = if [e].contains f then none else _
      by_cases h2 : e = f
      · subst h2; simp
      · rw [if_neg h2, if_neg (by simpa using fun h3 => h2 h3.symm)]
/-- len of what one may append to. -/
theorem lna {τ τ' : TypeId} {sz bytes : Nat} (hT : SlT P et τ' sz bytes) (hX : envl g x = some (T.o e)) (hE : lkE E e = some (Ent.ap c τ xs)) (hn : J P ops fin r (⟨[e], [], [], [], T.c (.int .i64 (xs.length : Int))⟩ :: H) (putg t (T.c (.int .i64 (xs.length : Int))) g) E) (hg : GuardIs ops g ⟨t, .call ⟨.builtin .len, #[x], #[et]⟩, ty, ps, af, gd⟩ true := by exact gd0) : J P ops fin (⟨t, .call ⟨.builtin .len, #[x], #[et]⟩, ty, ps, af, gd⟩ :: r) H g E :=
  j_use hE hg (fun ρ β u w F hs he hH => by
    obtain ⟨h1, A, n, k, h2⟩ := he x (by simp [Op.operands, Call.operands]) _ hX
    have hnn : n = xs.length := by
      rcases hH.hold e _ lk1_same with ⟨zs, k1, k2, k3⟩ | ⟨_, _, A', ev⟩
      · rcases k1.2 with ⟨ev, hn⟩ | ⟨q, cap, cur, ev, _⟩
        · rw [← h1, h2] at ev; cases ev; omega
        · rw [← h1, h2] at ev; cases ev; rfl
      · rw [← h1, h2] at ev; cases ev; rfl
    unfold Res
    rw [run_len hT h2]
    exact after_pure hs (by rw [hnn]; rfl)) hn
end
section
variable {P : Program} {Q : Exit → Act → World → Prop} {n : Nat} {ctx : Ctx} {g : List (Nat × T)} {E : List (Nat × Option Ent)} {x : Code} {α : Type} {c : Cod α} {l : List α} {τ : TypeId}
/-- It is one or the other. -/
theorem tri_ap (e : Nat) (hE : lkE E e = some (Ent.ap c τ l)) (h1 : Tri P x Q ctx n g ((e, some (Ent.row c τ l)) :: E)) (h2 : Tri P x Q ctx n g ((e, some (Ent.frz c l)) :: E)) : Tri P x Q ctx n g E := fun a w hS => by
  obtain ⟨β, u, F, q1, q2, q3, q4, q5, q6, q7⟩ := hS
  have mk : ∀ Y : Ent, Y.hold β u w (β e) (F e) → InSt ctx n g ((e, some Y) :: E) a w := fun Y hY => by
    have old : ∀ f X, lkE ((e, some Y) :: E) f = some X → ∃ Z, lkE E f = some Z ∧ (f = e ∧ X = Y ∨ f ≠ e ∧ X = Z) := fun f X hX => by
      rw [lkE_cons] at hX
      by_cases hf : e = f
      · rw [if_pos hf] at hX; cases hX; exact ⟨_, hf ▸ hE, .inl ⟨hf.symm, rfl⟩⟩
      · rw [if_neg hf] at hX; exact ⟨_, hX, .inr ⟨Ne.symm hf, rfl⟩⟩
    refine ⟨β, u, F, q1, q2, q3, ⟨fun f X hX => ?_, fun f X k hX hk => ?_, fun f f' X X' k hX hX' hne hk => ?_⟩, q5, fun f X k hX hk => ?_, q7⟩
    · obtain ⟨Z, hZ, ⟨rfl, rfl⟩ | ⟨hf, rfl⟩⟩ := old f X hX
      · exact hY
      · exact q4.hold f _ hZ
    · obtain ⟨Z, hZ, _⟩ := old f X hX
      exact q4.dead f Z k hZ hk
    · obtain ⟨Z, hZ, _⟩ := old f X hX
      obtain ⟨Z', hZ', _⟩ := old f' X' hX'
      exact q4.apart f f' Z Z' k hZ hZ' hne hk
    · obtain ⟨Z, hZ, _⟩ := old f X hX
      exact q6 f Z k hZ hk
  rcases q4.hold e _ hE with hr | ⟨hF, hx⟩
  · exact h1 a w (mk _ hr)
  · exact h2 a w (mk _ ⟨hF, hx.1⟩)
theorem tri_fza (e : Nat) (hE : lkE E e = some (Ent.ap c τ l)) (h : Tri P x Q ctx n g ((e, some (Ent.frz c l)) :: E)) : Tri P x Q ctx n g E :=
  tri_ap e hE (tri_fz e (by rw [lkE_cons, if_pos rfl]) (fun a w hS => h a w (hS.congr fun f => by
    rw [lkE_cons, lkE_cons (e := e) (X := some (Ent.frz c l)) (E := (e, _) :: E), lkE_cons]
    by_cases hf : e = f
    · rw [if_pos hf, if_pos hf]
    · rw [if_neg hf, if_neg hf, if_neg hf]))) h
theorem tri_renb {bl bl' : List T} {et : TypeId} (f e e' : Nat) (hE : lkE E e' = some (Ent.row c τ l)) (hB : lkE E f = some (Ent.box et bl)) (hr : RenC e e' bl bl') (hf : ((nsOf g ++ nsE E ++ ctx.I).contains e) = false) (hfe : Nat.beq f e' = false) (h : Tri P x Q ctx n g ((f, some (Ent.box et bl')) :: (e, some (Ent.row c τ l)) :: (e', none) :: E)) : Tri P x Q ctx n g E := pn_renb f e e' hE hB hr hf hfe h
end
theorem lkE_append (A B : List (Nat × Option Ent)) (f : Nat) : lkE (A ++ B) f = if f ∈ A.map (·.1) then lkE A f else lkE B f := by
  induction A with
  | nil => simp
  | cons p r ih =>
    obtain ⟨e, X⟩ := p
    rw [List.cons_append, lkE_cons, lkE_cons, ih]
    by_cases h : e = f
    · subst h; simp
    · rw [if_neg h, if_neg h]
      by_cases h2 : f ∈ r.map (·.1)
      · rw [if_pos h2, if_pos (by simp only [List.map_cons, List.mem_cons]; exact .inr h2)]
      · rw [if_neg h2, if_neg (by simp only [List.map_cons, List.mem_cons, not_or]; exact ⟨fun h3 => h h3.symm, h2⟩)]
/-- What is one's own behind a call that takes Ei and leaves Eo. -/
def aftE (Ei Eo : List (Nat × Ent)) (E : List (Nat × Option Ent)) : List (Nat × Option Ent) := somes Eo ++ ((Names Ei).map (fun e => (e, none)) ++ E)
theorem aftE_upd {Ei Eo : List (Nat × Ent)} {E : List (Nat × Option Ent)} {N : List Nat} {X : T} (f : Nat) : lkE (aftE Ei Eo E) f = OpS.upd ⟨[], Names Ei, Eo, N, X⟩ f (lkE E f) := by
  unfold aftE OpS.upd
  rw [lkE_append, lkE_append, lkE_somes]
  have h1 : (f ∈ (somes Eo).map (·.1)) ↔ f ∈ Names Eo := by simp [somes, Names]
  by_cases h : f ∈ Names Eo
  · rw [if_pos (h1.2 h)]
    cases hk : lk Eo f with
    | some Y => rfl
    | none =>
      exfalso
      have : ∀ l : List (Nat × Ent), f ∈ Names l → lk l f ≠ none := by
        intro l
        induction l with
        | nil => intro h; cases h
        | cons p r ih =>
          obtain ⟨e, Z⟩ := p
          intro hm
          rw [lk_cons]
          by_cases he : e = f
          · rw [if_pos he]; simp
          · rw [if_neg he]
            refine ih ?_
            simp only [Names, List.map_cons, List.mem_cons] at hm
            rcases hm with hm | hm
            · exact absurd hm.symm he
            · exact hm
      exact this Eo h hk
  · rw [if_neg (fun h2 => h (h1.1 h2)), lk_names h]
    show _ = if (Names Ei).contains f then none else lkE E f
    have h2 : ((Names Ei).map (fun e => ((e, none) : Nat × Option Ent))).map (·.1) = Names Ei := by rw [List.map_map]; exact List.map_id' _
    rw [h2]
    by_cases h3 : f ∈ Names Ei
    · rw [if_pos h3, if_pos (by simpa using h3)]
      have : ∀ l : List Nat, lkE (l.map (fun e => ((e, none) : Nat × Option Ent))) f = none := by
        intro l
        induction l with
        | nil => rfl
        | cons e r ih =>
          rw [List.map_cons, lkE_cons]
          split
          · rfl
          · exact ih
      exact this _
    · rw [if_neg h3, if_neg (by simpa using h3)]
section
variable {P : Program} {ops : Array Oper} {fin : List OpS → List (Nat × T) → List (Nat × Option Ent) → Prop} {r : List Oper} {H : List OpS} {g : List (Nat × T)} {E : List (Nat × Option Ent)} {o : Oper}
variable {t : Option Nat} {ty : TypeId} {ps : String} {af : Array Edge} {gd : Option (Nat × Bool)} {x y : Operand} {X Y : T}
theorem hold_sub {β : Env} {u w : World} {F : FP} {Ei : List (Nat × Ent)} {A : Nat → Option Ent} (hH : Hold β u w F A) (h : ∀ e X, lk Ei e = some X → ∃ Y, A e = some Y ∧ Y.le X) : Hold β u w F (lk Ei) :=
  ⟨fun e X hX => let ⟨Y, h1, h2⟩ := h e X hX; h2 _ _ _ _ _ (hH.hold e Y h1), fun e X k hX hk => let ⟨Y, h1, _⟩ := h e X hX; hH.dead e Y k h1 hk, fun e f X X' k hX hX' hne hk => let ⟨Y, h1, _⟩ := h e X hX; let ⟨Y', h1', _⟩ := h f X' hX'; hH.apart e f Y Y' k h1 h1' hne hk⟩
theorem j_ent {Ei Eo : List (Nat × Ent)} {N : List Nat} {R : T} (hE : SubE (somes Ei) E) (hg : GuardIs ops g o true) (h : OpOk P o (envl g) (lk Ei) ⟨[], Names Ei, Eo, N, R⟩) (hn : J P ops fin r (⟨[], Names Ei, Eo, N, R⟩ :: H) (putg o.dst R g) (aftE Ei Eo E)) : J P ops fin (o :: r) H g E := by
  have hsub : ∀ e X, lk Ei e = some X → ∃ Y, lkE E e = some Y ∧ Y.le X := fun e X hX => subE_lk hE (by rw [lkE_somes]; exact hX)
  have hnm : ∀ e ∈ Names Ei, ∃ X, lk Ei e = some X := fun e he => by
    cases hk : lk Ei e with
    | some X => exact ⟨X, rfl⟩
    | none =>
      exfalso
      have : ∀ l : List (Nat × Ent), e ∈ Names l → lk l e ≠ none := by
        intro l
        induction l with
        | nil => intro h; cases h
        | cons p r ih =>
          obtain ⟨f, Z⟩ := p
          intro hm
          rw [lk_cons]
          by_cases he : f = e
          · rw [if_pos he]; simp
          · rw [if_neg he]
            refine ih ?_
            simp only [Names, List.map_cons, List.mem_cons] at hm
            rcases hm with hm | hm
            · exact absurd hm.symm he
            · exact hm
      exact this Ei he hk
  refine ⟨⟨[], Names Ei, Eo, N, R⟩, aftE Ei Eo E, .inl ⟨hg, fun f hf => ?_, ?_⟩, fun f => aftE_upd f, hn⟩
  · obtain ⟨X, hX⟩ := hnm f hf
    obtain ⟨Y, hY, _⟩ := hsub f X hX
    exact ⟨Y, hY⟩
  · intro ρ β u w F hs he hH
    refine h ρ β u w F hs he (hold_sub hH fun e X hX => ?_)
    obtain ⟨Y, hY, hl⟩ := hsub e X hX
    have hm : e ∈ Names Ei := by
      have := lk_mem hX
      simp only [Names, List.mem_map]
      exact ⟨_, this, rfl⟩
    exact ⟨Y, by simp only [List.nil_append]; rw [if_pos hm]; exact hY, hl⟩
/-- A call that takes what is one's own, and leaves other. -/
theorem cae {f : FuncId} {zs : Array Operand} {tys : Array TypeId} {As Bs : List T} {Ei Eo : List (Nat × Ent)} {N : List Nat} (hA : envs g zs.toList = some As)
    (h : Fn P f Bs Ei Eo N X)
    (hl : LeL As Bs := by repeat (first | exact trivial | refine ⟨?_, ?_⟩ | exact T.le.refl _ | exact IsZ.le | exact IsL2.le | exact IsL.le | exact q_le _ _ | exact l_L (by assumption) (by assumption) (by assumption) | assumption))
    (hE : SubE (somes Ei) E) (hn : J P ops fin r (⟨[], Names Ei, Eo, N, X⟩ :: H) (putg t X g) (aftE Ei Eo E)) (hen : Enters P f := by intro a w; kernel_rfl)
    (hg : GuardIs ops g ⟨t, .call ⟨.value (.func f), zs, tys⟩, ty, ps, af, gd⟩ true := by exact gd0) : J P ops fin (⟨t, .call ⟨.value (.func f), zs, tys⟩, ty, ps, af, gd⟩ :: r) H g E :=
  j_ent hE hg (fun ρ β u w F hs he hH => by
    have hf : ρ (.func f) = .func (.func f) #[] #[] := he (.func f) (show Operand.func f ∈ (#[Operand.func f] ++ zs : Array Operand) from by simp) _ rfl
    have hre := envs_reps (β := β) (u := u) (ρ := ρ) hA (fun x hx Y hY => he x (show x ∈ (#[Operand.func f] ++ zs : Array Operand) from Array.mem_append_right _ (by simpa using hx)) Y hY)
    have := h _ β u w F hs (hre.le hl) hH
    unfold Res
    rw [show (execOp ρ ⟨t, .call ⟨.value (.func f), zs, tys⟩, ty, ps, af, gd⟩).run P w = .ok (.enter f (zs.toList.map ρ).toArray) w from by
      simp only [execOp, resolve, hf, Deferred.ofValue, Sem.run_bind, Sem.run_pure, Result.andThen_ok, invoke, hen _ w]
      congr 2
      apply Array.ext'; simp]
    exact this) hn
end
section
variable {P : Program} {x : Code} {Q : Exit → Act → World → Prop} {ctx : Ctx} {n : Nat} {g : List (Nat × T)} {E : List (Nat × Option Ent)}
/-- What is one's own and whose slice lies in a box gets another name. -/
theorem pn_rena {R : Ent} {et : TypeId} {bl bl' : List T} {K : Act → World → Prop} (f e e' : Nat) (hE : lkE E e' = some (R)) (hB : lkE E f = some (Ent.box et bl)) (hr : RenC e e' bl bl') (hf : ((nsOf g ++ nsE E ++ ctx.I).contains e) = false) (hfe : Nat.beq f e' = false) (hR0 : R.ns = []) (h : PN ctx n K g ((f, some (Ent.box et bl')) :: (e, some (R)) :: (e', none) :: E)) : PN ctx n K g E := fun a w hS => h a w (by
  obtain ⟨β, u, F, h1, h2, h3, h4, h5, h6, h7⟩ := hS
  have hfr : e ∉ nsOf g ∧ e ∉ nsE E ∧ e ∉ ctx.I := by
    simp only [List.contains_eq_mem, decide_eq_false_iff_not, List.mem_append, not_or] at hf
    exact ⟨hf.1.1, hf.1.2, hf.2⟩
  have hne : e ≠ e' := fun h => hfr.2.1 (h ▸ (lkE_base hE).1)
  have hfn : f ≠ e := fun h => hfr.2.1 (h ▸ (lkE_base hB).1)
  have hfe' : f ≠ e' := fun h => by subst h; simp at hfe
  have hb : ∀ q, q ≠ e → setE β e (β e') q = β q := fun q hne => setE_ne _ _ hne
  have hlk : ∀ q, lkE ((f, some (Ent.box et bl')) :: (e, some (R)) :: (e', none) :: E) q = if f = q then some (Ent.box et bl') else if e = q then some (R) else if e' = q then none else lkE E q := fun q => by
    unfold lkE
    rw [lk_cons, lk_cons, lk_cons]
    by_cases h0 : f = q
    · rw [if_pos h0, if_pos h0]; rfl
    · rw [if_neg h0, if_neg h0]
      by_cases h : e = q
      · rw [if_pos h, if_pos h]; rfl
      · rw [if_neg h, if_neg h]
        by_cases h2 : e' = q
        · rw [if_pos h2, if_pos h2]; rfl
        · rw [if_neg h2, if_neg h2]
  have key : ∀ q X, lkE ((f, some (Ent.box et bl')) :: (e, some (R)) :: (e', none) :: E) q = some X → (q = f ∧ X = Ent.box et bl') ∨ (q = e ∧ X = R) ∨ (q ≠ e ∧ q ≠ e' ∧ q ≠ f ∧ lkE E q = some X) := fun q X hX => by
    rw [hlk] at hX
    split at hX
    · rename_i h; cases hX; exact .inl ⟨h.symm, rfl⟩
    · split at hX
      · rename_i h; cases hX; exact .inr (.inl ⟨h.symm, rfl⟩)
      · split at hX
        · cases hX
        · rename_i h0 h h2; exact .inr (.inr ⟨Ne.symm h, Ne.symm h2, Ne.symm h0, hX⟩)
  -- the source of a footprint: an old entry
  let src : Nat → Nat := fun q => if q = e then e' else q
  have hsrc : ∀ q X, lkE ((f, some (Ent.box et bl')) :: (e, some (R)) :: (e', none) :: E) q = some X → ∃ Y, lkE E (src q) = some Y := fun q X hX => by
    rcases key q X hX with ⟨rfl, rfl⟩ | ⟨rfl, rfl⟩ | ⟨n1, n2, n3, hX'⟩
    · exact ⟨_, by simp only [src, if_neg hfn]; exact hB⟩
    · exact ⟨_, by simp only [src, if_pos]; exact hE⟩
    · exact ⟨_, by simp only [src, if_neg n1]; exact hX'⟩
  have hinj : ∀ q p X Y, lkE ((f, some (Ent.box et bl')) :: (e, some (R)) :: (e', none) :: E) q = some X → lkE ((f, some (Ent.box et bl')) :: (e, some (R)) :: (e', none) :: E) p = some Y → q ≠ p → src q ≠ src p := fun q p X Y hX hY hn => by
    have nq : q ≠ e' := by
      rcases key q X hX with ⟨rfl, _⟩ | ⟨rfl, _⟩ | ⟨_, n2, _, _⟩
      · exact hfe'
      · exact hne
      · exact n2
    have np : p ≠ e' := by
      rcases key p Y hY with ⟨rfl, _⟩ | ⟨rfl, _⟩ | ⟨_, n2, _, _⟩
      · exact hfe'
      · exact hne
      · exact n2
    simp only [src]
    split <;> split
    · rename_i a1 a2; exact absurd (a1.trans a2.symm) hn
    · exact fun h => np h.symm
    · exact nq
    · exact hn
  refine ⟨setE β e (β e'), u, fun q k => F (src q) k, h1, h2, fun t' X hX => ?_, ⟨fun q X hX => ?_, fun q X k hX hk => ?_, fun q p X Y k hX hY hn hk hk' => ?_⟩, h5, fun q X k hX hk => ?_, fun q hq => (hb q (fun h => hfr.2.2 (h ▸ hq))).trans (h7 q hq)⟩
  · obtain ⟨v, q1, q2⟩ := h3 t' X hX
    exact ⟨v, q1, X.ext (fun q hq => hb q (fun h => hfr.1 (h ▸ lk_base hX q hq))) q2⟩
  · rcases key q X hX with ⟨rfl, rfl⟩ | ⟨rfl, rfl⟩ | ⟨n1, n2, n3, hX'⟩
    · rw [hb _ hfn, show (fun k => F (src q) k) = F q from funext fun k => by simp only [src, if_neg hfn]]
      obtain ⟨b, cs, k1, k2, k3, k4⟩ := h4.hold _ _ hB
      exact ⟨b, cs, k1, k2, k3, hr.cells k4⟩
    · rw [setE_same, show (fun k => F (src q) k) = F e' from funext fun k => by simp only [src, if_pos]]
      exact X.ext (fun q hq => by rw [hR0] at hq; cases hq) (h4.hold e' _ hE)
    · rw [hb q n1, show (fun k => F (src q) k) = F q from funext fun k => by simp only [src, if_neg n1]]
      exact X.ext (fun p hp => hb p (fun h => hfr.2.1 (h ▸ (lkE_base hX').2 p hp))) (h4.hold q X hX')
  · obtain ⟨Y, hY⟩ := hsrc q X hX
    exact h4.dead _ Y k hY hk
  · obtain ⟨X', hX'⟩ := hsrc q X hX
    obtain ⟨Y', hY'⟩ := hsrc p Y hY
    exact h4.apart _ _ X' Y' k hX' hY' (hinj q p X Y hX hY hn) hk hk'
  · obtain ⟨Y, hY⟩ := hsrc q X hX
    exact h6 _ Y k hY hk)
end
end Go.Proofs.YtekghdfbhbhigaaGreat.V
/- The document: nodes by recursion. -/
set_option linter.unusedVariables false
set_option linter.unusedSimpArgs false
set_option maxRecDepth 100000
namespace Go.Proofs.YtekghdfbhbhigaaGreat.V
open Go.RowKit Mt Nml
theorem box_leM {et : TypeId} {l l' : List T} (h : LeL l l') (hz : l.map (·.sz) = l'.map (·.sz) := by rfl) : (Ent.box et l).le (Ent.box et l') := fun β u w v F ⟨b, cs, h1, h2, h3, h4⟩ => ⟨b, cs, h1, h2, h3, cells_le h4 h hz⟩
theorem fLiT : FieldT Tryz.prog 171 0 0 true 7 := FieldT.mk' tyTr
theorem fLiM : FieldT Tryz.prog 171 1 7 false 1 := FieldT.mk' tyI
theorem fLiL : FieldT Tryz.prog 171 2 8 false 1 := FieldT.mk' tyZss
theorem fLiA : FieldT Tryz.prog 171 3 9 false 1 := FieldT.mk' tyB
theorem stLi : StructT Tryz.prog 171 [T.c (.slice none 0 0), T.c (.slice none 0 0), T.c (.slice none 0 0), T.c (.bool false), T.c (.slice none 0 0), T.c (.bool false), T.c (.slice none 0 0), T.c (.int .i64 0), T.c (.slice none 0 0), T.c (.bool false)] [(0, 7), (7, 1), (8, 1), (9, 1)] := StructT.mk' (zs := [.slice none 0 0, .slice none 0 0, .slice none 0 0, .bool false, .slice none 0 0, .bool false, .slice none 0 0, .int .i64 0, .slice none 0 0, .bool false])
theorem fl_ge {s : List Int} {x : Nat → Int} {LL : Nat → List (List Int)} : ∀ j, j ≤ (fl s x LL j).length
  | 0 => Nat.zero_le _
  | j + 1 => by have := fl_ge (s := s) (x := x) (LL := LL) j; rw [fl_len]; omega
theorem fl_pre {s : List Int} {x : Nat → Int} {LL : Nat → List (List Int)} {j : Nat} : ∀ {m}, j ≤ m → ∃ R, fl s x LL m = fl s x LL j ++ R
  | 0, h => by obtain rfl : j = 0 := by omega
               exact ⟨[], by simp⟩
  | m + 1, h => by
    by_cases e : j = m + 1
    · subst e; exact ⟨[], by simp⟩
    · obtain ⟨R, hR⟩ := fl_pre (s := s) (x := x) (LL := LL) (j := j) (m := m) (by omega)
      exact ⟨R ++ ((s ++ [x m]) :: LL m), by show fl s x LL m ++ _ = _; rw [hR, List.append_assoc]⟩
/-- What is full takes no more. -/
theorem fl_full {acc : List (List Int)} {s : List Int} {x : Nat → Int} {LL : Nat → List (List Int)} {j m mo : Nat} (h : j ≤ m) (hl : mo ≤ acc.length + (fl s x LL j).length) : (acc ++ fl s x LL j).take mo = (acc ++ fl s x LL m).take mo := by
  obtain ⟨R, hR⟩ := fl_pre (s := s) (x := x) (LL := LL) h
  rw [hR, ← List.append_assoc, List.take_append_of_le_length (l₁ := acc ++ fl s x LL j) (by rw [List.length_append]; exact hl)]
theorem fl_next {acc : List (List Int)} {s : List Int} {x : Nat → Int} {LL : Nat → List (List Int)} {j mo : Nat} (hl : acc.length + (fl s x LL j).length ≤ mo) : (((acc ++ fl s x LL j).take mo ++ [s ++ [x j]]) ++ LL j).take mo = (acc ++ fl s x LL (j + 1)).take mo := by
  rw [List.take_of_length_le (l := acc ++ fl s x LL j) (by rw [List.length_append]; exact hl)]
  show _ = (acc ++ (fl s x LL j ++ ((s ++ [x j]) :: LL j))).take mo
  simp [List.append_assoc]
theorem lt5 (j M m q : Nat) (p : Prop) (hM : M = min m q) : (j < M ∧ p) ∨ (j < M ∧ ¬ p) ∨ (M ≤ j ∧ p ∧ m ≤ q) ∨ (M ≤ j ∧ p ∧ q < m) ∨ (M ≤ j ∧ ¬ p) := by
  by_cases hp : p <;> by_cases hj : j < M <;> by_cases hm : m ≤ q <;> simp_all <;> omega

theorem r11_with {s : List Int} {x : Int} {k : Nat} (hs : s.length ≤ 1048576) (hk : k ≤ 1099511627776) : Fn Tryz.prog 169 [T.l (cZ k) s, T.Z x k] [] [] [] (T.l (cZ k) (s ++ [x])) := by
  refine fn_of Tryz.func169 rfl (by show 2 ≤ 24; decide) fun cx hcx => ?_
  refine tri_sub (sl 0 rfl (sl 1 rfl sn)) en ?_
  refine tri_seq ?_
  refine tri_reg mixed hcx ?_ _ _
  refine bx 10 rfl ?_
  refine asg rfl ?_
  refine ⟨by kernel_rfl, ?_⟩
  refine nx (sl 0 rfl (sl 3 rfl sn)) (el 10 rfl en) ?_
  refine tri_seq ?_
  refine tri_reg mixed hcx ?_ _ _
  refine asg rfl ?_
  refine ⟨by kernel_rfl, ?_⟩
  refine nx (sl 0 rfl (sl 3 rfl (sl 5 rfl sn))) (el 10 rfl en) ?_
  refine tri_seq ?_
  refine tri_seq ?_
  refine tri_nil 5 9 32 (cZ k) rfl (by rw [hcx]; kernel_rfl) ?_
  refine tri_reg mixed hcx ?_ _ _
  refine asg rfl ?_
  refine ⟨by kernel_rfl, ?_⟩
  refine nx (sl 0 rfl (sl 3 rfl (sl 5 rfl (sl 6 rfl sn)))) (el 10 rfl (el 9 rfl en)) ?_
  refine tri_block ?_
  refine tri_loop (ι := Nat) (fun i => [(0, T.l (cZ k) s), (3, T.p 10 0), (5, T.o 9), (6, T.c (.int .i64 (i : Int)))]) (fun i => [(10, some (Ent.box 32 [T.Z x k])), (9, some (Ent.row (cZ k) 32 (s.take i)))]) (fun i => s.length - i) (fun i => (i ≤ s.length)) 0 (Nat.zero_le _) (sl 0 rfl (sl 3 rfl (sl 5 rfl (sl 6 rfl sn)))) (el 10 rfl (el 9 rfl en)) ?_
  rintro i hi
  refine tri_sub (sl 0 rfl (sl 3 rfl (sl 5 rfl (sl 6 rfl sn)))) (el 10 rfl (el 9 rfl en)) ?_
  have htk : (s.take i).length = i := by rw [List.length_take]; omega
  refine tri_seq ?_
  refine tri_seq ?_
  refine tri_reg mixed hcx ?_ _ _
  refine mv rfl ?_
  refine mv rfl ?_
  refine ln slZs rfl ?_
  refine clt rfl rfl rfl ?_
  refine ⟨by kernel_rfl, ?_⟩
  refine nx (sl 0 rfl (sl 3 rfl (sl 5 rfl (sl 6 rfl (sl 10 rfl sn))))) (el 10 rfl (el 9 rfl en)) ?_
  refine tri_if rfl (fun hc => ?_) (fun hc => ?_)
  · have hc2 : i < s.length := by omega
    refine tri_skip ?_
    refine nx (sl 0 rfl (sl 3 rfl (sl 5 rfl (sl 6 rfl sn)))) (el 10 rfl (el 9 rfl en)) ?_
    refine tri_seq ?_
    refine tri_block ?_
    refine tri_reg mixed hcx ?_ _ _
    refine mv rfl ?_
    refine mv rfl ?_
    refine mv rfl ?_
    refine ix rfl rfl slZs ⟨rfl, by omega⟩ ?_
    refine lf rfl tyZ ?_
    refine bs (c := cZ k) (xs := [s.getD i (cZ k).dflt]) slZs rfl ⟨.refl _, trivial⟩ ?_
    refine ap 516 rfl rfl rfl slZs (by simp only [List.length_cons, List.length_nil]; omega) (by decide) ?_
    refine asg rfl ?_
    refine ⟨by kernel_rfl, ?_⟩
    refine pn_blk ?_
    refine nx (sl 0 rfl (sl 3 rfl (sl 5 rfl (sl 6 rfl sn)))) (el 10 rfl (el 516 rfl en)) ?_
    refine tri_reg mixed hcx ?_ _ _
    refine mv rfl ?_
    refine ad (((i + 1 : Nat) : Int)) rfl rfl rfl (by omega) ?_
    refine asg rfl ?_
    refine ⟨by kernel_rfl, ?_⟩
    refine pn_sub (sl 0 rfl (sl 3 rfl (sl 5 rfl (sl 6 rfl sn)))) (el 10 rfl (el 516 rfl en)) ?_
    refine pn_ren 5 9 516 rfl rfl (by rw [hcx]; kernel_rfl) ?_
    exact pn_back (i + 1) (by first | omega | (dsimp only; omega)) (by omega) (sl 0 rfl (sl 3 rfl (sl 5 rfl (sl 6 rfl sn)))) (el 10 rfl (ew 9 rfl (.of (by rw [show (cZ k).dflt = 0 from rfl, take_snoc hc2])) en))
  · refine tri_exit ?_
    repeat (first | refine pn_then ?_ | refine pn_oth (by decide) ?_)
    refine pn_ex ?_
    have hin : i = s.length := by omega
    refine nx (sl 3 rfl (sl 5 rfl sn)) (el 10 rfl (el 9 rfl en)) ?_
    refine tri_seq ?_
    refine tri_reg mixed hcx ?_ _ _
    refine mv rfl ?_
    refine ld rfl rfl tyZ rfl ?_
    refine bs (c := cZ k) (xs := [x]) slZs rfl ⟨.refl _, trivial⟩ ?_
    refine ap 613 rfl rfl rfl slZs (by simp only [List.length_cons, List.length_nil]; omega) (by decide) ?_
    refine asg rfl ?_
    refine ⟨by kernel_rfl, ?_⟩
    refine nx (sl 4 rfl sn) (el 10 rfl (el 613 rfl en)) ?_
    refine tri_fz 613 rfl ?_
    refine tri_rd 4 613 rfl rfl ?_
    refine tri_ret ?_
    repeat (first | refine pn_thenr ?_ | refine pn_blkr ?_)
    exact ret1 hcx rfl (rv_tmp rfl) (.of (by rw [hin, List.take_length])) en

theorem r11_leafa {D : List Int} {L : List (List Int)} {ts : List (Int × Int)} {a b : Int} {n k : Nat} (h : TrS D L ts n k) {s : List Int} {acc : List (List Int)} {mo : Nat} (hs : s.length = n) : Fn Tryz.prog 131 [T.p 600 0, T.l (cZ k) s] [(600, Ent.box 171 [T.l (cZi k) D, T.l (cL (cZi k)) L, T.l (cQi k) ts, T.Zi a k, T.Zi b k, T.c (.int .i64 (mo : Int)), T.o 601, T.c (.bool true)]), (601, Ent.row (cL (cZ k)) 23 (acc))] [(600, Ent.box 171 [T.l (cZi k) D, T.l (cL (cZi k)) L, T.l (cQi k) ts, T.Zi a k, T.Zi b k, T.c (.int .i64 (mo : Int)), T.o 602, T.c (.bool true)]), (602, Ent.row (cL (cZ k)) 23 (acc))] [602] (T.tup []) := by
  refine fn_of Tryz.func131 rfl (by show 2 ≤ 98; decide) fun cx hcx => ?_
  refine tri_sub (sl 0 rfl (sl 1 rfl sn)) (el 600 rfl (el 601 rfl en)) ?_
  have hn12 := h.twelve
  have hkk := h.hk
  have hlL := h.len
  have hn0 := h.pos
  refine tri_seq ?_
  refine tri_seq ?_
  refine tri_reg mixed hcx ?_ _ _
  refine mv rfl ?_
  refine ln slZs rfl ?_
  refine mv rfl ?_
  refine nk rfl ?_
  refine fa rfl fLiT 0 ?_
  refine fa rfl fTrG 0 ?_
  refine fa rfl fL 1 ?_
  refine ld rfl rfl tyZss rfl ?_
  refine ln slZss rfl ?_
  refine cge rfl rfl (decide_eq_true (by omega)) ?_
  refine mv rfl ?_
  refine j_off rfl rfl rfl rfl ?_
  refine j_off rfl rfl rfl rfl ?_
  refine j_off rfl rfl rfl rfl ?_
  refine j_off rfl rfl rfl rfl ?_
  refine j_off rfl rfl rfl rfl ?_
  refine pk rfl rfl ?_
  refine ⟨by kernel_rfl, ?_⟩
  refine nx (sl 0 rfl (sl 1 rfl (sl 24 rfl sn))) (el 600 rfl (el 601 rfl en)) ?_
  refine tri_true rfl rfl ?_
  refine tri_ret ?_
  repeat (first | refine pn_thenr ?_ | refine pn_blkr ?_)
  refine pn_renb (bl := [T.l (cZi k) D, T.l (cL (cZi k)) L, T.l (cQi k) ts, T.Zi a k, T.Zi b k, T.c (.int .i64 (mo : Int)), T.o 601, T.c (.bool true)]) (bl' := [T.l (cZi k) D, T.l (cL (cZi k)) L, T.l (cQi k) ts, T.Zi a k, T.Zi b k, T.c (.int .i64 (mo : Int)), T.o 602, T.c (.bool true)]) 600 602 601 rfl rfl ⟨.inl ⟨rfl, by show 602 ∉ []; decide⟩, .inl ⟨rfl, by show 602 ∉ []; decide⟩, .inl ⟨rfl, by show 602 ∉ []; decide⟩, .inl ⟨rfl, by show 602 ∉ []; decide⟩, .inl ⟨rfl, by show 602 ∉ []; decide⟩, .inl ⟨rfl, by show 602 ∉ []; decide⟩, .inr ⟨rfl, rfl⟩, .inl ⟨rfl, by show 602 ∉ []; decide⟩, trivial⟩ (by rw [hcx]; kernel_rfl) rfl ?_
  exact ret0 hcx rfl  (.refl _) (el 600 rfl (el 602 rfl en))

theorem r11_nodea {D : List Int} {L : List (List Int)} {ts : List (Int × Int)} {a b : Int} {n k : Nat} (h : TrS D L ts n k) {s : List Int} {acc : List (List Int)} {LL : Nat → List (List Int)} {m mo : Nat} (hb : 0 < b) (hs : s.length + 1 ≤ n) (hx : ∀ j, j ≤ m → zl (nth (ctT D L ts s (n - 1) (n - 1 - s.length) s.length) j) ≤ k) (hw : ∀ j, j < m → ptT D L ts (s ++ [nth (ctT D L ts s (n - 1) (n - 1 - s.length) s.length) j]) (n - 1) (s.length + 1) ≤ (a : Rat) / (b : Rat)) (hn : ¬ ptT D L ts (s ++ [nth (ctT D L ts s (n - 1) (n - 1 - s.length) s.length) m]) (n - 1) (s.length + 1) ≤ (a : Rat) / (b : Rat)) (hmo : mo ≤ 65536) (hin : ptT D L ts s (n - 1) s.length ≤ (a : Rat) / (b : Rat)) (hacc : acc.length ≤ mo) (IH : ∀ j, j < m → ∀ ac : List (List Int), ac.length ≤ mo → Fn Tryz.prog 131 [T.p 600 0, T.l (cZ k) (s ++ [nth (ctT D L ts s (n - 1) (n - 1 - s.length) s.length) j])] [(600, Ent.box 171 [T.l (cZi k) D, T.l (cL (cZi k)) L, T.l (cQi k) ts, T.Zi a k, T.Zi b k, T.c (.int .i64 (mo : Int)), T.o 603, T.c (.bool true)]), (603, Ent.row (cL (cZ k)) 23 (ac))] [(600, Ent.box 171 [T.l (cZi k) D, T.l (cL (cZi k)) L, T.l (cQi k) ts, T.Zi a k, T.Zi b k, T.c (.int .i64 (mo : Int)), T.o 604, T.c (.bool (decide (ac.length + (LL j).length ≤ mo)))]), (604, Ent.row (cL (cZ k)) 23 ((ac ++ LL j).take mo))] [604] (T.tup [])) : Fn Tryz.prog 131 [T.p 600 0, T.l (cZ k) s] [(600, Ent.box 171 [T.l (cZi k) D, T.l (cL (cZi k)) L, T.l (cQi k) ts, T.Zi a k, T.Zi b k, T.c (.int .i64 (mo : Int)), T.o 601, T.c (.bool true)]), (601, Ent.row (cL (cZ k)) 23 (acc))] [(600, Ent.box 171 [T.l (cZi k) D, T.l (cL (cZi k)) L, T.l (cQi k) ts, T.Zi a k, T.Zi b k, T.c (.int .i64 (mo : Int)), T.o 602, T.c (.bool (decide (acc.length + (fl s (nth (ctT D L ts s (n - 1) (n - 1 - s.length) s.length)) LL m).length ≤ mo)))]), (602, Ent.row (cL (cZ k)) 23 ((acc ++ (fl s (nth (ctT D L ts s (n - 1) (n - 1 - s.length) s.length)) LL m)).take mo))] [602] (T.tup []) := by
  refine fn_of Tryz.func131 rfl (by show 2 ≤ 98; decide) fun cx hcx => ?_
  refine tri_sub (sl 0 rfl (sl 1 rfl sn)) (el 600 rfl (el 601 rfl en)) ?_
  have hn12 := h.twelve
  have hkk := h.hk
  have hlL := h.len
  have hn0 := h.pos
  refine tri_seq ?_
  refine tri_seq ?_
  refine tri_reg mixed hcx ?_ _ _
  refine mv rfl ?_
  refine ln slZs rfl ?_
  refine mv rfl ?_
  refine nk rfl ?_
  refine fa rfl fLiT 0 ?_
  refine fa rfl fTrG 0 ?_
  refine fa rfl fL 1 ?_
  refine ld rfl rfl tyZss rfl ?_
  refine ln slZss rfl ?_
  refine cge rfl rfl (decide_eq_false (by omega)) ?_
  refine mv rfl ?_
  refine mv rfl ?_ (hg := gd1)
  refine nk rfl ?_ (hg := gd1)
  refine fa rfl fLiA 9 ?_ (hg := gd1)
  refine ld rfl rfl tyB rfl ?_ (hg := gd1)
  refine nt rfl _ rfl ?_ (hg := gd1)
  refine pk rfl rfl ?_
  refine ⟨by kernel_rfl, ?_⟩
  refine nx (sl 0 rfl (sl 1 rfl (sl 24 rfl sn))) (el 600 rfl (el 601 rfl en)) ?_
  refine tri_false rfl rfl ?_
  refine tri_skip ?_
  refine nx (sl 0 rfl (sl 1 rfl sn)) (el 600 rfl (el 601 rfl en)) ?_
  refine tri_seq ?_
  refine tri_reg mixed hcx ?_ _ _
  refine mv rfl ?_
  refine nk rfl ?_
  refine fa rfl fLiT 0 ?_
  refine ld rfl rfl tyTr rfl ?_
  refine mv rfl ?_
  refine mv rfl ?_
  refine nk rfl ?_
  refine fa rfl fLiM 7 ?_
  refine ld rfl rfl tyI rfl ?_
  refine mv rfl ?_
  refine nk rfl ?_
  refine fa rfl fLiL 8 ?_
  refine ld rfl rfl tyZss rfl ?_
  refine lno slZss rfl rfl ?_
  refine sb (((mo - acc.length : Nat) : Int)) rfl rfl rfl (by omega) ?_
  refine ca rfl (h := r11_Kids (m := m) (mo := mo - acc.length) h hb hs hx hw hn (by omega) hin) (hn := ?_)
  refine mv rfl ?_
  refine ex rfl rfl ?_
  refine ex rfl rfl ?_
  refine asg rfl ?_
  refine asg rfl ?_
  refine ⟨by kernel_rfl, ?_⟩
  refine nx (sl 0 rfl (sl 1 rfl (sl 4 rfl (sl 5 rfl sn)))) (el 600 rfl (el 601 rfl en)) ?_
  refine tri_seq ?_
  refine tri_seq ?_
  refine tri_reg mixed hcx ?_ _ _
  refine asg rfl ?_
  refine ⟨by kernel_rfl, ?_⟩
  refine nx (sl 0 rfl (sl 1 rfl (sl 4 rfl (sl 5 rfl (sl 6 rfl sn))))) (el 600 rfl (el 601 rfl en)) ?_
  refine tri_block ?_
  refine tri_renb (bl := [T.l (cZi k) D, T.l (cL (cZi k)) L, T.l (cQi k) ts, T.Zi a k, T.Zi b k, T.c (.int .i64 (mo : Int)), T.o 601, T.c (.bool true)]) (bl' := [T.l (cZi k) D, T.l (cL (cZi k)) L, T.l (cQi k) ts, T.Zi a k, T.Zi b k, T.c (.int .i64 (mo : Int)), T.o 603, T.c (.bool true)]) 600 603 601 rfl rfl ⟨.inl ⟨rfl, by show 603 ∉ []; decide⟩, .inl ⟨rfl, by show 603 ∉ []; decide⟩, .inl ⟨rfl, by show 603 ∉ []; decide⟩, .inl ⟨rfl, by show 603 ∉ []; decide⟩, .inl ⟨rfl, by show 603 ∉ []; decide⟩, .inl ⟨rfl, by show 603 ∉ []; decide⟩, .inr ⟨rfl, rfl⟩, .inl ⟨rfl, by show 603 ∉ []; decide⟩, trivial⟩ (by rw [hcx]; kernel_rfl) rfl ?_
  refine tri_loop (ι := Nat) (fun j => [(0, T.p 600 0), (1, T.l (cZ k) s), (4, T.l (cZ k) (kl (ctT D L ts s (n - 1) (n - 1 - s.length) s.length) (min m (mo - acc.length)))), (5, T.c (.bool (decide (m ≤ mo - acc.length)))), (6, T.c (.int .i64 (j : Int)))]) (fun j => [(600, some (Ent.box 171 [T.l (cZi k) D, T.l (cL (cZi k)) L, T.l (cQi k) ts, T.Zi a k, T.Zi b k, T.c (.int .i64 (mo : Int)), T.o 603, T.c (.bool (decide (acc.length + (fl s (nth (ctT D L ts s (n - 1) (n - 1 - s.length) s.length)) LL j).length ≤ mo)))])), (603, some (Ent.row (cL (cZ k)) 23 ((acc ++ (fl s (nth (ctT D L ts s (n - 1) (n - 1 - s.length) s.length)) LL j)).take mo)))]) (fun j => min m (mo - acc.length) - j) (fun j => (j ≤ min m (mo - acc.length))) 0 (Nat.zero_le _) (sl 0 rfl (sl 1 rfl (sl 4 rfl (sl 5 rfl (sl 6 rfl sn))))) (ew 600 rfl (box_leM (l' := [T.l (cZi k) D, T.l (cL (cZi k)) L, T.l (cQi k) ts, T.Zi a k, T.Zi b k, T.c (.int .i64 (mo : Int)), T.o 603, T.c (.bool (decide (acc.length + (fl s (nth (ctT D L ts s (n - 1) (n - 1 - s.length) s.length)) LL 0).length ≤ mo)))]) ⟨.refl _, .refl _, .refl _, .refl _, .refl _, .refl _, .refl _, .of (congrArg (fun q => T.c (.bool q)) (decide_eq_true (show acc.length + 0 ≤ mo by omega)).symm), trivial⟩) (ew 603 rfl (.of (by rw [show (acc ++ (fl s (nth (ctT D L ts s (n - 1) (n - 1 - s.length) s.length)) LL 0)) = acc from List.append_nil acc, List.take_of_length_le hacc])) en)) ?_
  rintro j hj
  refine tri_sub (sl 0 rfl (sl 1 rfl (sl 4 rfl (sl 5 rfl (sl 6 rfl sn))))) (el 600 rfl (el 603 rfl en)) ?_
  have hkl := @kl_len (ctT D L ts s (n - 1) (n - 1 - s.length) s.length) (min m (mo - acc.length))
  have hge := fl_ge (s := s) (x := nth (ctT D L ts s (n - 1) (n - 1 - s.length) s.length)) (LL := LL) j
  have hjm : j ≤ m := by omega
  have hmono := fl_mono s (nth (ctT D L ts s (n - 1) (n - 1 - s.length) s.length)) LL hjm
  have hgm := fl_ge (s := s) (x := nth (ctT D L ts s (n - 1) (n - 1 - s.length) s.length)) (LL := LL) m
  refine tri_seq ?_
  refine tri_seq ?_
  rcases lt5 j (min m (mo - acc.length)) m (mo - acc.length) (acc.length + (fl s (nth (ctT D L ts s (n - 1) (n - 1 - s.length) s.length)) LL j).length ≤ mo) rfl with ⟨q1, hp⟩ | ⟨q1, hp⟩ | ⟨q1, hp, hm⟩ | ⟨q1, hp, hm⟩ | ⟨q1, hp⟩
  · rw [decide_eq_true hp]
    have hln : ((acc ++ (fl s (nth (ctT D L ts s (n - 1) (n - 1 - s.length) s.length)) LL j)).take mo).length = acc.length + (fl s (nth (ctT D L ts s (n - 1) (n - 1 - s.length) s.length)) LL j).length := by rw [List.length_take, List.length_append]; omega
    refine tri_reg mixed hcx ?_ _ _
    refine mv rfl ?_
    refine mv rfl ?_
    refine ln slZs rfl ?_
    refine clt rfl rfl (decide_eq_true (by omega)) ?_
    refine mv rfl ?_
    refine mv rfl ?_ (hg := gd1)
    refine nk rfl ?_ (hg := gd1)
    refine fa rfl fLiA 9 ?_ (hg := gd1)
    refine ld rfl rfl tyB rfl ?_ (hg := gd1)
    refine pk rfl rfl ?_
    refine ⟨by kernel_rfl, ?_⟩
    refine nx (sl 0 rfl (sl 1 rfl (sl 4 rfl (sl 5 rfl (sl 6 rfl (sl 53 rfl sn)))))) (el 600 rfl (el 603 rfl en)) ?_
    refine tri_true rfl rfl ?_
    refine tri_skip ?_
    refine nx (sl 0 rfl (sl 1 rfl (sl 4 rfl (sl 5 rfl (sl 6 rfl sn))))) (el 600 rfl (el 603 rfl en)) ?_
    refine tri_seq ?_
    refine tri_block ?_
    refine tri_seq ?_
    refine tri_seq ?_
    refine tri_reg mixed hcx ?_ _ _
    refine mv rfl ?_
    refine nk rfl ?_
    refine fa rfl fLiL 8 ?_
    refine ld rfl rfl tyZss rfl ?_
    refine lno slZss rfl rfl ?_
    refine mv rfl ?_
    refine nk rfl ?_
    refine fa rfl fLiM 7 ?_
    refine ld rfl rfl tyI rfl ?_
    refine cge rfl rfl rfl ?_
    refine ⟨by kernel_rfl, ?_⟩
    refine nx (sl 0 rfl (sl 1 rfl (sl 4 rfl (sl 5 rfl (sl 6 rfl (sl 65 rfl sn)))))) (el 600 rfl (el 603 rfl en)) ?_
    refine tri_if rfl (fun hfull => ?_) (fun hfull => ?_)
    · have hlt := fl_mono s (nth (ctT D L ts s (n - 1) (n - 1 - s.length) s.length)) LL (show j + 1 ≤ m by omega)
      rw [fl_len] at hlt
      refine tri_seq ?_
      refine tri_reg mixed hcx ?_ _ _
      refine mv rfl ?_
      refine nk rfl ?_
      refine fa rfl fLiA 9 ?_
      refine st rfl rfl rfl tyB rfl ?_
      refine ⟨by kernel_rfl, ?_⟩
      refine nx sn (el 600 rfl (el 603 rfl en)) ?_
      refine tri_ret ?_
      repeat (first | refine pn_thenr ?_ | refine pn_blkr ?_)
      refine pn_renb (bl := [T.l (cZi k) D, T.l (cL (cZi k)) L, T.l (cQi k) ts, T.Zi a k, T.Zi b k, T.c (.int .i64 (mo : Int)), T.o 603, T.c (.bool false)]) (bl' := [T.l (cZi k) D, T.l (cL (cZi k)) L, T.l (cQi k) ts, T.Zi a k, T.Zi b k, T.c (.int .i64 (mo : Int)), T.o 602, T.c (.bool false)]) 600 602 603 rfl rfl ⟨.inl ⟨rfl, by show 602 ∉ []; decide⟩, .inl ⟨rfl, by show 602 ∉ []; decide⟩, .inl ⟨rfl, by show 602 ∉ []; decide⟩, .inl ⟨rfl, by show 602 ∉ []; decide⟩, .inl ⟨rfl, by show 602 ∉ []; decide⟩, .inl ⟨rfl, by show 602 ∉ []; decide⟩, .inr ⟨rfl, rfl⟩, .inl ⟨rfl, by show 602 ∉ []; decide⟩, trivial⟩ (by rw [hcx]; kernel_rfl) rfl ?_
      exact ret0 hcx rfl  (.refl _) (ew 600 rfl (box_leM (l' := [T.l (cZi k) D, T.l (cL (cZi k)) L, T.l (cQi k) ts, T.Zi a k, T.Zi b k, T.c (.int .i64 (mo : Int)), T.o 602, T.c (.bool (decide (acc.length + (fl s (nth (ctT D L ts s (n - 1) (n - 1 - s.length) s.length)) LL m).length ≤ mo)))]) ⟨.refl _, .refl _, .refl _, .refl _, .refl _, .refl _, .refl _, .of (congrArg (fun q => T.c (.bool q)) ((decide_eq_false (by omega)).symm)), trivial⟩) (ew 602 rfl (.of (by rw [fl_full hjm (by omega)])) en))
    · have hacl : ((acc ++ (fl s (nth (ctT D L ts s (n - 1) (n - 1 - s.length) s.length)) LL j)).take mo ++ [s ++ [nth (ctT D L ts s (n - 1) (n - 1 - s.length) s.length) j]]).length = acc.length + (fl s (nth (ctT D L ts s (n - 1) (n - 1 - s.length) s.length)) LL j).length + 1 := by rw [List.length_append, hln, List.length_singleton]
      have hfl := fl_len s (nth (ctT D L ts s (n - 1) (n - 1 - s.length) s.length)) LL j
      have hWi := fn_le (As := [T.l (cZ k) s, (cZ k).X ((kl (ctT D L ts s (n - 1) (n - 1 - s.length) s.length) (min m (mo - acc.length))).getD j (cZ k).dflt)]) (r11_with (s := s) (x := nth (ctT D L ts s (n - 1) (n - 1 - s.length) s.length) j) (k := k) (by omega) (by omega)) ⟨.refl _, .of (by rw [show (cZ k).dflt = 0 from rfl, kl_at q1]; rfl), trivial⟩
      refine tri_skip ?_
      refine nx (sl 0 rfl (sl 1 rfl (sl 4 rfl (sl 5 rfl (sl 6 rfl sn))))) (el 600 rfl (el 603 rfl en)) ?_
      refine tri_seq ?_
      refine tri_reg mixed hcx ?_ _ _
      refine mv rfl ?_
      refine mv rfl ?_
      refine mv rfl ?_
      refine ix rfl rfl slZs ⟨rfl, by omega⟩ ?_
      refine lf rfl tyZ ?_
      refine ca rfl (h := hWi) (hn := ?_)
      refine asg rfl ?_
      refine ⟨by kernel_rfl, ?_⟩
      refine nx (sl 0 rfl (sl 1 rfl (sl 4 rfl (sl 5 rfl (sl 6 rfl (sl 7 rfl sn)))))) (el 600 rfl (el 603 rfl en)) ?_
      refine tri_seq ?_
      refine tri_reg mixed hcx ?_ _ _
      refine mv rfl ?_
      refine mv rfl ?_
      refine nk rfl ?_
      refine fa rfl fLiL 8 ?_
      refine ld rfl rfl tyZss rfl ?_
      refine mv rfl ?_
      refine bs (c := cL (cZ k)) (xs := [s ++ [nth (ctT D L ts s (n - 1) (n - 1 - s.length) s.length) j]]) slZss rfl ⟨.refl _, trivial⟩ ?_
      refine ap 817 rfl rfl rfl slZss (by simp only [List.length_cons, List.length_nil]; omega) (by decide) ?_
      refine nk rfl ?_
      refine fa rfl fLiL 8 ?_
      refine st rfl rfl rfl tyZss rfl ?_
      refine ⟨by kernel_rfl, ?_⟩
      refine nx (sl 0 rfl (sl 1 rfl (sl 4 rfl (sl 5 rfl (sl 6 rfl (sl 7 rfl sn)))))) (el 600 rfl (el 817 rfl en)) ?_
      refine tri_sub (sl 0 rfl (sl 1 rfl (sl 4 rfl (sl 5 rfl (sl 6 rfl (sl 7 rfl sn)))))) (el 600 rfl (el 817 rfl en)) ?_
      refine tri_renb (bl := [T.l (cZi k) D, T.l (cL (cZi k)) L, T.l (cQi k) ts, T.Zi a k, T.Zi b k, T.c (.int .i64 (mo : Int)), T.o 817, T.c (.bool true)]) (bl' := [T.l (cZi k) D, T.l (cL (cZi k)) L, T.l (cQi k) ts, T.Zi a k, T.Zi b k, T.c (.int .i64 (mo : Int)), T.o 603, T.c (.bool true)]) 600 603 817 rfl rfl ⟨.inl ⟨rfl, by show 603 ∉ []; decide⟩, .inl ⟨rfl, by show 603 ∉ []; decide⟩, .inl ⟨rfl, by show 603 ∉ []; decide⟩, .inl ⟨rfl, by show 603 ∉ []; decide⟩, .inl ⟨rfl, by show 603 ∉ []; decide⟩, .inl ⟨rfl, by show 603 ∉ []; decide⟩, .inr ⟨rfl, rfl⟩, .inl ⟨rfl, by show 603 ∉ []; decide⟩, trivial⟩ (by rw [hcx]; kernel_rfl) rfl ?_
      refine tri_reg mixed hcx ?_ _ _
      refine mv rfl ?_
      refine mv rfl ?_
      refine cae (hE := (el 600 rfl (el 603 rfl en))) rfl (h := IH j (by omega) _ (by omega)) (hn := ?_)
      refine ⟨by kernel_rfl, ?_⟩
      refine pn_blk ?_
      refine nx (sl 0 rfl (sl 1 rfl (sl 4 rfl (sl 5 rfl (sl 6 rfl sn))))) (el 600 rfl (el 604 rfl en)) ?_
      refine tri_reg mixed hcx ?_ _ _
      refine mv rfl ?_
      refine ad (((j + 1 : Nat) : Int)) rfl rfl rfl (by omega) ?_
      refine asg rfl ?_
      refine ⟨by kernel_rfl, ?_⟩
      refine pn_sub (sl 0 rfl (sl 1 rfl (sl 4 rfl (sl 5 rfl (sl 6 rfl sn))))) (el 600 rfl (el 604 rfl en)) ?_
      refine pn_renb (bl := [T.l (cZi k) D, T.l (cL (cZi k)) L, T.l (cQi k) ts, T.Zi a k, T.Zi b k, T.c (.int .i64 (mo : Int)), T.o 604, T.c (.bool (decide (((acc ++ (fl s (nth (ctT D L ts s (n - 1) (n - 1 - s.length) s.length)) LL j)).take mo ++ [s ++ [nth (ctT D L ts s (n - 1) (n - 1 - s.length) s.length) j]]).length + (LL j).length ≤ mo)))]) (bl' := [T.l (cZi k) D, T.l (cL (cZi k)) L, T.l (cQi k) ts, T.Zi a k, T.Zi b k, T.c (.int .i64 (mo : Int)), T.o 603, T.c (.bool (decide (((acc ++ (fl s (nth (ctT D L ts s (n - 1) (n - 1 - s.length) s.length)) LL j)).take mo ++ [s ++ [nth (ctT D L ts s (n - 1) (n - 1 - s.length) s.length) j]]).length + (LL j).length ≤ mo)))]) 600 603 604 rfl rfl ⟨.inl ⟨rfl, by show 603 ∉ []; decide⟩, .inl ⟨rfl, by show 603 ∉ []; decide⟩, .inl ⟨rfl, by show 603 ∉ []; decide⟩, .inl ⟨rfl, by show 603 ∉ []; decide⟩, .inl ⟨rfl, by show 603 ∉ []; decide⟩, .inl ⟨rfl, by show 603 ∉ []; decide⟩, .inr ⟨rfl, rfl⟩, .inl ⟨rfl, by show 603 ∉ []; decide⟩, trivial⟩ (by rw [hcx]; kernel_rfl) rfl ?_
      exact pn_back (j + 1) (by first | omega | (dsimp only; omega)) (by omega) (sl 0 rfl (sl 1 rfl (sl 4 rfl (sl 5 rfl (sl 6 rfl sn))))) (ew 600 rfl (box_leM (l' := [T.l (cZi k) D, T.l (cL (cZi k)) L, T.l (cQi k) ts, T.Zi a k, T.Zi b k, T.c (.int .i64 (mo : Int)), T.o 603, T.c (.bool (decide (acc.length + (fl s (nth (ctT D L ts s (n - 1) (n - 1 - s.length) s.length)) LL (j + 1)).length ≤ mo)))]) ⟨.refl _, .refl _, .refl _, .refl _, .refl _, .refl _, .refl _, .of (congrArg (fun q => T.c (.bool q)) (decide_eq_decide.2 (by rw [hacl, hfl]; omega))), trivial⟩) (ew 603 rfl (.of (by rw [fl_next hp])) en))
  · rw [decide_eq_false hp]
    refine tri_reg mixed hcx ?_ _ _
    refine mv rfl ?_
    refine mv rfl ?_
    refine ln slZs rfl ?_
    refine clt rfl rfl (decide_eq_true (by omega)) ?_
    refine mv rfl ?_
    refine mv rfl ?_ (hg := gd1)
    refine nk rfl ?_ (hg := gd1)
    refine fa rfl fLiA 9 ?_ (hg := gd1)
    refine ld rfl rfl tyB rfl ?_ (hg := gd1)
    refine pk rfl rfl ?_
    refine ⟨by kernel_rfl, ?_⟩
    refine nx (sl 0 rfl (sl 1 rfl (sl 4 rfl (sl 5 rfl (sl 6 rfl (sl 53 rfl sn)))))) (el 600 rfl (el 603 rfl en)) ?_
    refine tri_false rfl rfl ?_
    refine tri_exit ?_
    repeat (first | refine pn_then ?_ | refine pn_oth (by decide) ?_)
    refine pn_ex ?_
    refine nx (sl 0 rfl (sl 5 rfl sn)) (el 600 rfl (el 603 rfl en)) ?_
    refine tri_reg mixed hcx ?_ _ _
    refine mv rfl ?_
    refine mv rfl ?_
    refine nk rfl ?_
    refine fa rfl fLiA 9 ?_
    refine ld rfl rfl tyB rfl ?_
    refine mv rfl ?_
    refine j_off rfl rfl rfl rfl ?_
    refine pk rfl rfl ?_
    refine nk rfl ?_
    refine fa rfl fLiA 9 ?_
    refine st rfl rfl rfl tyB rfl ?_
    refine ⟨by kernel_rfl, ?_⟩
    refine pn_off ?_
    refine pn_renb (bl := [T.l (cZi k) D, T.l (cL (cZi k)) L, T.l (cQi k) ts, T.Zi a k, T.Zi b k, T.c (.int .i64 (mo : Int)), T.o 603, T.c (.bool false)]) (bl' := [T.l (cZi k) D, T.l (cL (cZi k)) L, T.l (cQi k) ts, T.Zi a k, T.Zi b k, T.c (.int .i64 (mo : Int)), T.o 602, T.c (.bool false)]) 600 602 603 rfl rfl ⟨.inl ⟨rfl, by show 602 ∉ []; decide⟩, .inl ⟨rfl, by show 602 ∉ []; decide⟩, .inl ⟨rfl, by show 602 ∉ []; decide⟩, .inl ⟨rfl, by show 602 ∉ []; decide⟩, .inl ⟨rfl, by show 602 ∉ []; decide⟩, .inl ⟨rfl, by show 602 ∉ []; decide⟩, .inr ⟨rfl, rfl⟩, .inl ⟨rfl, by show 602 ∉ []; decide⟩, trivial⟩ (by rw [hcx]; kernel_rfl) rfl ?_
    exact ret0 hcx rfl  (.refl _) (ew 600 rfl (box_leM (l' := [T.l (cZi k) D, T.l (cL (cZi k)) L, T.l (cQi k) ts, T.Zi a k, T.Zi b k, T.c (.int .i64 (mo : Int)), T.o 602, T.c (.bool (decide (acc.length + (fl s (nth (ctT D L ts s (n - 1) (n - 1 - s.length) s.length)) LL m).length ≤ mo)))]) ⟨.refl _, .refl _, .refl _, .refl _, .refl _, .refl _, .refl _, .of (congrArg (fun q => T.c (.bool q)) ((decide_eq_false (by omega)).symm)), trivial⟩) (ew 602 rfl (.of (by rw [fl_full hjm (by omega)])) en))
  · rw [decide_eq_true hp, decide_eq_true hm]
    obtain rfl : m = j := by omega
    refine tri_reg mixed hcx ?_ _ _
    refine mv rfl ?_
    refine mv rfl ?_
    refine ln slZs rfl ?_
    refine clt rfl rfl (decide_eq_false (by omega)) ?_
    refine mv rfl ?_
    refine j_off rfl rfl rfl rfl ?_
    refine j_off rfl rfl rfl rfl ?_
    refine j_off rfl rfl rfl rfl ?_
    refine j_off rfl rfl rfl rfl ?_
    refine pk rfl rfl ?_
    refine ⟨by kernel_rfl, ?_⟩
    refine nx (sl 0 rfl (sl 1 rfl (sl 4 rfl (sl 5 rfl (sl 6 rfl (sl 53 rfl sn)))))) (el 600 rfl (el 603 rfl en)) ?_
    refine tri_false rfl rfl ?_
    refine tri_exit ?_
    repeat (first | refine pn_then ?_ | refine pn_oth (by decide) ?_)
    refine pn_ex ?_
    refine nx (sl 0 rfl (sl 5 rfl sn)) (el 600 rfl (el 603 rfl en)) ?_
    refine tri_reg mixed hcx ?_ _ _
    refine mv rfl ?_
    refine mv rfl ?_
    refine nk rfl ?_
    refine fa rfl fLiA 9 ?_
    refine ld rfl rfl tyB rfl ?_
    refine mv rfl ?_
    refine mv rfl ?_ (hg := gd1)
    refine pk rfl rfl ?_
    refine nk rfl ?_
    refine fa rfl fLiA 9 ?_
    refine st rfl rfl rfl tyB rfl ?_
    refine ⟨by kernel_rfl, ?_⟩
    refine pn_off ?_
    refine pn_renb (bl := [T.l (cZi k) D, T.l (cL (cZi k)) L, T.l (cQi k) ts, T.Zi a k, T.Zi b k, T.c (.int .i64 (mo : Int)), T.o 603, T.c (.bool true)]) (bl' := [T.l (cZi k) D, T.l (cL (cZi k)) L, T.l (cQi k) ts, T.Zi a k, T.Zi b k, T.c (.int .i64 (mo : Int)), T.o 602, T.c (.bool true)]) 600 602 603 rfl rfl ⟨.inl ⟨rfl, by show 602 ∉ []; decide⟩, .inl ⟨rfl, by show 602 ∉ []; decide⟩, .inl ⟨rfl, by show 602 ∉ []; decide⟩, .inl ⟨rfl, by show 602 ∉ []; decide⟩, .inl ⟨rfl, by show 602 ∉ []; decide⟩, .inl ⟨rfl, by show 602 ∉ []; decide⟩, .inr ⟨rfl, rfl⟩, .inl ⟨rfl, by show 602 ∉ []; decide⟩, trivial⟩ (by rw [hcx]; kernel_rfl) rfl ?_
    exact ret0 hcx rfl  (.refl _) (ew 600 rfl (box_leM (l' := [T.l (cZi k) D, T.l (cL (cZi k)) L, T.l (cQi k) ts, T.Zi a k, T.Zi b k, T.c (.int .i64 (mo : Int)), T.o 602, T.c (.bool (decide (acc.length + (fl s (nth (ctT D L ts s (n - 1) (n - 1 - s.length) s.length)) LL m).length ≤ mo)))]) ⟨.refl _, .refl _, .refl _, .refl _, .refl _, .refl _, .refl _, .of (congrArg (fun q => T.c (.bool q)) ((decide_eq_true hp).symm)), trivial⟩) (ew 602 rfl (.refl _) en))
  · rw [decide_eq_true hp, decide_eq_false (show ¬ m ≤ mo - acc.length by omega)]
    refine tri_reg mixed hcx ?_ _ _
    refine mv rfl ?_
    refine mv rfl ?_
    refine ln slZs rfl ?_
    refine clt rfl rfl (decide_eq_false (by omega)) ?_
    refine mv rfl ?_
    refine j_off rfl rfl rfl rfl ?_
    refine j_off rfl rfl rfl rfl ?_
    refine j_off rfl rfl rfl rfl ?_
    refine j_off rfl rfl rfl rfl ?_
    refine pk rfl rfl ?_
    refine ⟨by kernel_rfl, ?_⟩
    refine nx (sl 0 rfl (sl 1 rfl (sl 4 rfl (sl 5 rfl (sl 6 rfl (sl 53 rfl sn)))))) (el 600 rfl (el 603 rfl en)) ?_
    refine tri_false rfl rfl ?_
    refine tri_exit ?_
    repeat (first | refine pn_then ?_ | refine pn_oth (by decide) ?_)
    refine pn_ex ?_
    refine nx (sl 0 rfl (sl 5 rfl sn)) (el 600 rfl (el 603 rfl en)) ?_
    refine tri_reg mixed hcx ?_ _ _
    refine mv rfl ?_
    refine mv rfl ?_
    refine nk rfl ?_
    refine fa rfl fLiA 9 ?_
    refine ld rfl rfl tyB rfl ?_
    refine mv rfl ?_
    refine mv rfl ?_ (hg := gd1)
    refine pk rfl rfl ?_
    refine nk rfl ?_
    refine fa rfl fLiA 9 ?_
    refine st rfl rfl rfl tyB rfl ?_
    refine ⟨by kernel_rfl, ?_⟩
    refine pn_off ?_
    refine pn_renb (bl := [T.l (cZi k) D, T.l (cL (cZi k)) L, T.l (cQi k) ts, T.Zi a k, T.Zi b k, T.c (.int .i64 (mo : Int)), T.o 603, T.c (.bool false)]) (bl' := [T.l (cZi k) D, T.l (cL (cZi k)) L, T.l (cQi k) ts, T.Zi a k, T.Zi b k, T.c (.int .i64 (mo : Int)), T.o 602, T.c (.bool false)]) 600 602 603 rfl rfl ⟨.inl ⟨rfl, by show 602 ∉ []; decide⟩, .inl ⟨rfl, by show 602 ∉ []; decide⟩, .inl ⟨rfl, by show 602 ∉ []; decide⟩, .inl ⟨rfl, by show 602 ∉ []; decide⟩, .inl ⟨rfl, by show 602 ∉ []; decide⟩, .inl ⟨rfl, by show 602 ∉ []; decide⟩, .inr ⟨rfl, rfl⟩, .inl ⟨rfl, by show 602 ∉ []; decide⟩, trivial⟩ (by rw [hcx]; kernel_rfl) rfl ?_
    exact ret0 hcx rfl  (.refl _) (ew 600 rfl (box_leM (l' := [T.l (cZi k) D, T.l (cL (cZi k)) L, T.l (cQi k) ts, T.Zi a k, T.Zi b k, T.c (.int .i64 (mo : Int)), T.o 602, T.c (.bool (decide (acc.length + (fl s (nth (ctT D L ts s (n - 1) (n - 1 - s.length) s.length)) LL m).length ≤ mo)))]) ⟨.refl _, .refl _, .refl _, .refl _, .refl _, .refl _, .refl _, .of (congrArg (fun q => T.c (.bool q)) ((decide_eq_false (by omega)).symm)), trivial⟩) (ew 602 rfl (.of (by rw [fl_full hjm (by omega)])) en))
  · rw [decide_eq_false hp]
    refine tri_reg mixed hcx ?_ _ _
    refine mv rfl ?_
    refine mv rfl ?_
    refine ln slZs rfl ?_
    refine clt rfl rfl (decide_eq_false (by omega)) ?_
    refine mv rfl ?_
    refine j_off rfl rfl rfl rfl ?_
    refine j_off rfl rfl rfl rfl ?_
    refine j_off rfl rfl rfl rfl ?_
    refine j_off rfl rfl rfl rfl ?_
    refine pk rfl rfl ?_
    refine ⟨by kernel_rfl, ?_⟩
    refine nx (sl 0 rfl (sl 1 rfl (sl 4 rfl (sl 5 rfl (sl 6 rfl (sl 53 rfl sn)))))) (el 600 rfl (el 603 rfl en)) ?_
    refine tri_false rfl rfl ?_
    refine tri_exit ?_
    repeat (first | refine pn_then ?_ | refine pn_oth (by decide) ?_)
    refine pn_ex ?_
    refine nx (sl 0 rfl (sl 5 rfl sn)) (el 600 rfl (el 603 rfl en)) ?_
    refine tri_reg mixed hcx ?_ _ _
    refine mv rfl ?_
    refine mv rfl ?_
    refine nk rfl ?_
    refine fa rfl fLiA 9 ?_
    refine ld rfl rfl tyB rfl ?_
    refine mv rfl ?_
    refine j_off rfl rfl rfl rfl ?_
    refine pk rfl rfl ?_
    refine nk rfl ?_
    refine fa rfl fLiA 9 ?_
    refine st rfl rfl rfl tyB rfl ?_
    refine ⟨by kernel_rfl, ?_⟩
    refine pn_off ?_
    refine pn_renb (bl := [T.l (cZi k) D, T.l (cL (cZi k)) L, T.l (cQi k) ts, T.Zi a k, T.Zi b k, T.c (.int .i64 (mo : Int)), T.o 603, T.c (.bool false)]) (bl' := [T.l (cZi k) D, T.l (cL (cZi k)) L, T.l (cQi k) ts, T.Zi a k, T.Zi b k, T.c (.int .i64 (mo : Int)), T.o 602, T.c (.bool false)]) 600 602 603 rfl rfl ⟨.inl ⟨rfl, by show 602 ∉ []; decide⟩, .inl ⟨rfl, by show 602 ∉ []; decide⟩, .inl ⟨rfl, by show 602 ∉ []; decide⟩, .inl ⟨rfl, by show 602 ∉ []; decide⟩, .inl ⟨rfl, by show 602 ∉ []; decide⟩, .inl ⟨rfl, by show 602 ∉ []; decide⟩, .inr ⟨rfl, rfl⟩, .inl ⟨rfl, by show 602 ∉ []; decide⟩, trivial⟩ (by rw [hcx]; kernel_rfl) rfl ?_
    exact ret0 hcx rfl  (.refl _) (ew 600 rfl (box_leM (l' := [T.l (cZi k) D, T.l (cL (cZi k)) L, T.l (cQi k) ts, T.Zi a k, T.Zi b k, T.c (.int .i64 (mo : Int)), T.o 602, T.c (.bool (decide (acc.length + (fl s (nth (ctT D L ts s (n - 1) (n - 1 - s.length) s.length)) LL m).length ≤ mo)))]) ⟨.refl _, .refl _, .refl _, .refl _, .refl _, .refl _, .refl _, .of (congrArg (fun q => T.c (.bool q)) ((decide_eq_false (by omega)).symm)), trivial⟩) (ew 602 rfl (.of (by rw [fl_full hjm (by omega)])) en))

theorem r11_leafb {D : List Int} {L : List (List Int)} {ts : List (Int × Int)} {a b : Int} {n k : Nat} (h : TrS D L ts n k) {s : List Int} {acc : List (List Int)} {mo : Nat} (hs : s.length = n) : Fn Tryz.prog 131 [T.p 600 0, T.l (cZ k) s] [(600, Ent.box 171 [T.l (cZi k) D, T.l (cL (cZi k)) L, T.l (cQi k) ts, T.Zi a k, T.Zi b k, T.c (.int .i64 (mo : Int)), T.o 603, T.c (.bool true)]), (603, Ent.row (cL (cZ k)) 23 (acc))] [(600, Ent.box 171 [T.l (cZi k) D, T.l (cL (cZi k)) L, T.l (cQi k) ts, T.Zi a k, T.Zi b k, T.c (.int .i64 (mo : Int)), T.o 604, T.c (.bool true)]), (604, Ent.row (cL (cZ k)) 23 (acc))] [604] (T.tup []) := by
  refine fn_of Tryz.func131 rfl (by show 2 ≤ 98; decide) fun cx hcx => ?_
  refine tri_sub (sl 0 rfl (sl 1 rfl sn)) (el 600 rfl (el 603 rfl en)) ?_
  have hn12 := h.twelve
  have hkk := h.hk
  have hlL := h.len
  have hn0 := h.pos
  refine tri_seq ?_
  refine tri_seq ?_
  refine tri_reg mixed hcx ?_ _ _
  refine mv rfl ?_
  refine ln slZs rfl ?_
  refine mv rfl ?_
  refine nk rfl ?_
  refine fa rfl fLiT 0 ?_
  refine fa rfl fTrG 0 ?_
  refine fa rfl fL 1 ?_
  refine ld rfl rfl tyZss rfl ?_
  refine ln slZss rfl ?_
  refine cge rfl rfl (decide_eq_true (by omega)) ?_
  refine mv rfl ?_
  refine j_off rfl rfl rfl rfl ?_
  refine j_off rfl rfl rfl rfl ?_
  refine j_off rfl rfl rfl rfl ?_
  refine j_off rfl rfl rfl rfl ?_
  refine j_off rfl rfl rfl rfl ?_
  refine pk rfl rfl ?_
  refine ⟨by kernel_rfl, ?_⟩
  refine nx (sl 0 rfl (sl 1 rfl (sl 24 rfl sn))) (el 600 rfl (el 603 rfl en)) ?_
  refine tri_true rfl rfl ?_
  refine tri_ret ?_
  repeat (first | refine pn_thenr ?_ | refine pn_blkr ?_)
  refine pn_renb (bl := [T.l (cZi k) D, T.l (cL (cZi k)) L, T.l (cQi k) ts, T.Zi a k, T.Zi b k, T.c (.int .i64 (mo : Int)), T.o 603, T.c (.bool true)]) (bl' := [T.l (cZi k) D, T.l (cL (cZi k)) L, T.l (cQi k) ts, T.Zi a k, T.Zi b k, T.c (.int .i64 (mo : Int)), T.o 604, T.c (.bool true)]) 600 604 603 rfl rfl ⟨.inl ⟨rfl, by show 604 ∉ []; decide⟩, .inl ⟨rfl, by show 604 ∉ []; decide⟩, .inl ⟨rfl, by show 604 ∉ []; decide⟩, .inl ⟨rfl, by show 604 ∉ []; decide⟩, .inl ⟨rfl, by show 604 ∉ []; decide⟩, .inl ⟨rfl, by show 604 ∉ []; decide⟩, .inr ⟨rfl, rfl⟩, .inl ⟨rfl, by show 604 ∉ []; decide⟩, trivial⟩ (by rw [hcx]; kernel_rfl) rfl ?_
  exact ret0 hcx rfl  (.refl _) (el 600 rfl (el 604 rfl en))

theorem r11_nodeb {D : List Int} {L : List (List Int)} {ts : List (Int × Int)} {a b : Int} {n k : Nat} (h : TrS D L ts n k) {s : List Int} {acc : List (List Int)} {LL : Nat → List (List Int)} {m mo : Nat} (hb : 0 < b) (hs : s.length + 1 ≤ n) (hx : ∀ j, j ≤ m → zl (nth (ctT D L ts s (n - 1) (n - 1 - s.length) s.length) j) ≤ k) (hw : ∀ j, j < m → ptT D L ts (s ++ [nth (ctT D L ts s (n - 1) (n - 1 - s.length) s.length) j]) (n - 1) (s.length + 1) ≤ (a : Rat) / (b : Rat)) (hn : ¬ ptT D L ts (s ++ [nth (ctT D L ts s (n - 1) (n - 1 - s.length) s.length) m]) (n - 1) (s.length + 1) ≤ (a : Rat) / (b : Rat)) (hmo : mo ≤ 65536) (hin : ptT D L ts s (n - 1) s.length ≤ (a : Rat) / (b : Rat)) (hacc : acc.length ≤ mo) (IH : ∀ j, j < m → ∀ ac : List (List Int), ac.length ≤ mo → Fn Tryz.prog 131 [T.p 600 0, T.l (cZ k) (s ++ [nth (ctT D L ts s (n - 1) (n - 1 - s.length) s.length) j])] [(600, Ent.box 171 [T.l (cZi k) D, T.l (cL (cZi k)) L, T.l (cQi k) ts, T.Zi a k, T.Zi b k, T.c (.int .i64 (mo : Int)), T.o 601, T.c (.bool true)]), (601, Ent.row (cL (cZ k)) 23 (ac))] [(600, Ent.box 171 [T.l (cZi k) D, T.l (cL (cZi k)) L, T.l (cQi k) ts, T.Zi a k, T.Zi b k, T.c (.int .i64 (mo : Int)), T.o 602, T.c (.bool (decide (ac.length + (LL j).length ≤ mo)))]), (602, Ent.row (cL (cZ k)) 23 ((ac ++ LL j).take mo))] [602] (T.tup [])) : Fn Tryz.prog 131 [T.p 600 0, T.l (cZ k) s] [(600, Ent.box 171 [T.l (cZi k) D, T.l (cL (cZi k)) L, T.l (cQi k) ts, T.Zi a k, T.Zi b k, T.c (.int .i64 (mo : Int)), T.o 603, T.c (.bool true)]), (603, Ent.row (cL (cZ k)) 23 (acc))] [(600, Ent.box 171 [T.l (cZi k) D, T.l (cL (cZi k)) L, T.l (cQi k) ts, T.Zi a k, T.Zi b k, T.c (.int .i64 (mo : Int)), T.o 604, T.c (.bool (decide (acc.length + (fl s (nth (ctT D L ts s (n - 1) (n - 1 - s.length) s.length)) LL m).length ≤ mo)))]), (604, Ent.row (cL (cZ k)) 23 ((acc ++ (fl s (nth (ctT D L ts s (n - 1) (n - 1 - s.length) s.length)) LL m)).take mo))] [604] (T.tup []) := by
  refine fn_of Tryz.func131 rfl (by show 2 ≤ 98; decide) fun cx hcx => ?_
  refine tri_sub (sl 0 rfl (sl 1 rfl sn)) (el 600 rfl (el 603 rfl en)) ?_
  have hn12 := h.twelve
  have hkk := h.hk
  have hlL := h.len
  have hn0 := h.pos
  refine tri_seq ?_
  refine tri_seq ?_
  refine tri_reg mixed hcx ?_ _ _
  refine mv rfl ?_
  refine ln slZs rfl ?_
  refine mv rfl ?_
  refine nk rfl ?_
  refine fa rfl fLiT 0 ?_
  refine fa rfl fTrG 0 ?_
  refine fa rfl fL 1 ?_
  refine ld rfl rfl tyZss rfl ?_
  refine ln slZss rfl ?_
  refine cge rfl rfl (decide_eq_false (by omega)) ?_
  refine mv rfl ?_
  refine mv rfl ?_ (hg := gd1)
  refine nk rfl ?_ (hg := gd1)
  refine fa rfl fLiA 9 ?_ (hg := gd1)
  refine ld rfl rfl tyB rfl ?_ (hg := gd1)
  refine nt rfl _ rfl ?_ (hg := gd1)
  refine pk rfl rfl ?_
  refine ⟨by kernel_rfl, ?_⟩
  refine nx (sl 0 rfl (sl 1 rfl (sl 24 rfl sn))) (el 600 rfl (el 603 rfl en)) ?_
  refine tri_false rfl rfl ?_
  refine tri_skip ?_
  refine nx (sl 0 rfl (sl 1 rfl sn)) (el 600 rfl (el 603 rfl en)) ?_
  refine tri_seq ?_
  refine tri_reg mixed hcx ?_ _ _
  refine mv rfl ?_
  refine nk rfl ?_
  refine fa rfl fLiT 0 ?_
  refine ld rfl rfl tyTr rfl ?_
  refine mv rfl ?_
  refine mv rfl ?_
  refine nk rfl ?_
  refine fa rfl fLiM 7 ?_
  refine ld rfl rfl tyI rfl ?_
  refine mv rfl ?_
  refine nk rfl ?_
  refine fa rfl fLiL 8 ?_
  refine ld rfl rfl tyZss rfl ?_
  refine lno slZss rfl rfl ?_
  refine sb (((mo - acc.length : Nat) : Int)) rfl rfl rfl (by omega) ?_
  refine ca rfl (h := r11_Kids (m := m) (mo := mo - acc.length) h hb hs hx hw hn (by omega) hin) (hn := ?_)
  refine mv rfl ?_
  refine ex rfl rfl ?_
  refine ex rfl rfl ?_
  refine asg rfl ?_
  refine asg rfl ?_
  refine ⟨by kernel_rfl, ?_⟩
  refine nx (sl 0 rfl (sl 1 rfl (sl 4 rfl (sl 5 rfl sn)))) (el 600 rfl (el 603 rfl en)) ?_
  refine tri_seq ?_
  refine tri_seq ?_
  refine tri_reg mixed hcx ?_ _ _
  refine asg rfl ?_
  refine ⟨by kernel_rfl, ?_⟩
  refine nx (sl 0 rfl (sl 1 rfl (sl 4 rfl (sl 5 rfl (sl 6 rfl sn))))) (el 600 rfl (el 603 rfl en)) ?_
  refine tri_block ?_
  refine tri_renb (bl := [T.l (cZi k) D, T.l (cL (cZi k)) L, T.l (cQi k) ts, T.Zi a k, T.Zi b k, T.c (.int .i64 (mo : Int)), T.o 603, T.c (.bool true)]) (bl' := [T.l (cZi k) D, T.l (cL (cZi k)) L, T.l (cQi k) ts, T.Zi a k, T.Zi b k, T.c (.int .i64 (mo : Int)), T.o 601, T.c (.bool true)]) 600 601 603 rfl rfl ⟨.inl ⟨rfl, by show 601 ∉ []; decide⟩, .inl ⟨rfl, by show 601 ∉ []; decide⟩, .inl ⟨rfl, by show 601 ∉ []; decide⟩, .inl ⟨rfl, by show 601 ∉ []; decide⟩, .inl ⟨rfl, by show 601 ∉ []; decide⟩, .inl ⟨rfl, by show 601 ∉ []; decide⟩, .inr ⟨rfl, rfl⟩, .inl ⟨rfl, by show 601 ∉ []; decide⟩, trivial⟩ (by rw [hcx]; kernel_rfl) rfl ?_
  refine tri_loop (ι := Nat) (fun j => [(0, T.p 600 0), (1, T.l (cZ k) s), (4, T.l (cZ k) (kl (ctT D L ts s (n - 1) (n - 1 - s.length) s.length) (min m (mo - acc.length)))), (5, T.c (.bool (decide (m ≤ mo - acc.length)))), (6, T.c (.int .i64 (j : Int)))]) (fun j => [(600, some (Ent.box 171 [T.l (cZi k) D, T.l (cL (cZi k)) L, T.l (cQi k) ts, T.Zi a k, T.Zi b k, T.c (.int .i64 (mo : Int)), T.o 601, T.c (.bool (decide (acc.length + (fl s (nth (ctT D L ts s (n - 1) (n - 1 - s.length) s.length)) LL j).length ≤ mo)))])), (601, some (Ent.row (cL (cZ k)) 23 ((acc ++ (fl s (nth (ctT D L ts s (n - 1) (n - 1 - s.length) s.length)) LL j)).take mo)))]) (fun j => min m (mo - acc.length) - j) (fun j => (j ≤ min m (mo - acc.length))) 0 (Nat.zero_le _) (sl 0 rfl (sl 1 rfl (sl 4 rfl (sl 5 rfl (sl 6 rfl sn))))) (ew 600 rfl (box_leM (l' := [T.l (cZi k) D, T.l (cL (cZi k)) L, T.l (cQi k) ts, T.Zi a k, T.Zi b k, T.c (.int .i64 (mo : Int)), T.o 601, T.c (.bool (decide (acc.length + (fl s (nth (ctT D L ts s (n - 1) (n - 1 - s.length) s.length)) LL 0).length ≤ mo)))]) ⟨.refl _, .refl _, .refl _, .refl _, .refl _, .refl _, .refl _, .of (congrArg (fun q => T.c (.bool q)) (decide_eq_true (show acc.length + 0 ≤ mo by omega)).symm), trivial⟩) (ew 601 rfl (.of (by rw [show (acc ++ (fl s (nth (ctT D L ts s (n - 1) (n - 1 - s.length) s.length)) LL 0)) = acc from List.append_nil acc, List.take_of_length_le hacc])) en)) ?_
  rintro j hj
  refine tri_sub (sl 0 rfl (sl 1 rfl (sl 4 rfl (sl 5 rfl (sl 6 rfl sn))))) (el 600 rfl (el 601 rfl en)) ?_
  have hkl := @kl_len (ctT D L ts s (n - 1) (n - 1 - s.length) s.length) (min m (mo - acc.length))
  have hge := fl_ge (s := s) (x := nth (ctT D L ts s (n - 1) (n - 1 - s.length) s.length)) (LL := LL) j
  have hjm : j ≤ m := by omega
  have hmono := fl_mono s (nth (ctT D L ts s (n - 1) (n - 1 - s.length) s.length)) LL hjm
  have hgm := fl_ge (s := s) (x := nth (ctT D L ts s (n - 1) (n - 1 - s.length) s.length)) (LL := LL) m
  refine tri_seq ?_
  refine tri_seq ?_
  rcases lt5 j (min m (mo - acc.length)) m (mo - acc.length) (acc.length + (fl s (nth (ctT D L ts s (n - 1) (n - 1 - s.length) s.length)) LL j).length ≤ mo) rfl with ⟨q1, hp⟩ | ⟨q1, hp⟩ | ⟨q1, hp, hm⟩ | ⟨q1, hp, hm⟩ | ⟨q1, hp⟩
  · rw [decide_eq_true hp]
    have hln : ((acc ++ (fl s (nth (ctT D L ts s (n - 1) (n - 1 - s.length) s.length)) LL j)).take mo).length = acc.length + (fl s (nth (ctT D L ts s (n - 1) (n - 1 - s.length) s.length)) LL j).length := by rw [List.length_take, List.length_append]; omega
    refine tri_reg mixed hcx ?_ _ _
    refine mv rfl ?_
    refine mv rfl ?_
    refine ln slZs rfl ?_
    refine clt rfl rfl (decide_eq_true (by omega)) ?_
    refine mv rfl ?_
    refine mv rfl ?_ (hg := gd1)
    refine nk rfl ?_ (hg := gd1)
    refine fa rfl fLiA 9 ?_ (hg := gd1)
    refine ld rfl rfl tyB rfl ?_ (hg := gd1)
    refine pk rfl rfl ?_
    refine ⟨by kernel_rfl, ?_⟩
    refine nx (sl 0 rfl (sl 1 rfl (sl 4 rfl (sl 5 rfl (sl 6 rfl (sl 53 rfl sn)))))) (el 600 rfl (el 601 rfl en)) ?_
    refine tri_true rfl rfl ?_
    refine tri_skip ?_
    refine nx (sl 0 rfl (sl 1 rfl (sl 4 rfl (sl 5 rfl (sl 6 rfl sn))))) (el 600 rfl (el 601 rfl en)) ?_
    refine tri_seq ?_
    refine tri_block ?_
    refine tri_seq ?_
    refine tri_seq ?_
    refine tri_reg mixed hcx ?_ _ _
    refine mv rfl ?_
    refine nk rfl ?_
    refine fa rfl fLiL 8 ?_
    refine ld rfl rfl tyZss rfl ?_
    refine lno slZss rfl rfl ?_
    refine mv rfl ?_
    refine nk rfl ?_
    refine fa rfl fLiM 7 ?_
    refine ld rfl rfl tyI rfl ?_
    refine cge rfl rfl rfl ?_
    refine ⟨by kernel_rfl, ?_⟩
    refine nx (sl 0 rfl (sl 1 rfl (sl 4 rfl (sl 5 rfl (sl 6 rfl (sl 65 rfl sn)))))) (el 600 rfl (el 601 rfl en)) ?_
    refine tri_if rfl (fun hfull => ?_) (fun hfull => ?_)
    · have hlt := fl_mono s (nth (ctT D L ts s (n - 1) (n - 1 - s.length) s.length)) LL (show j + 1 ≤ m by omega)
      rw [fl_len] at hlt
      refine tri_seq ?_
      refine tri_reg mixed hcx ?_ _ _
      refine mv rfl ?_
      refine nk rfl ?_
      refine fa rfl fLiA 9 ?_
      refine st rfl rfl rfl tyB rfl ?_
      refine ⟨by kernel_rfl, ?_⟩
      refine nx sn (el 600 rfl (el 601 rfl en)) ?_
      refine tri_ret ?_
      repeat (first | refine pn_thenr ?_ | refine pn_blkr ?_)
      refine pn_renb (bl := [T.l (cZi k) D, T.l (cL (cZi k)) L, T.l (cQi k) ts, T.Zi a k, T.Zi b k, T.c (.int .i64 (mo : Int)), T.o 601, T.c (.bool false)]) (bl' := [T.l (cZi k) D, T.l (cL (cZi k)) L, T.l (cQi k) ts, T.Zi a k, T.Zi b k, T.c (.int .i64 (mo : Int)), T.o 604, T.c (.bool false)]) 600 604 601 rfl rfl ⟨.inl ⟨rfl, by show 604 ∉ []; decide⟩, .inl ⟨rfl, by show 604 ∉ []; decide⟩, .inl ⟨rfl, by show 604 ∉ []; decide⟩, .inl ⟨rfl, by show 604 ∉ []; decide⟩, .inl ⟨rfl, by show 604 ∉ []; decide⟩, .inl ⟨rfl, by show 604 ∉ []; decide⟩, .inr ⟨rfl, rfl⟩, .inl ⟨rfl, by show 604 ∉ []; decide⟩, trivial⟩ (by rw [hcx]; kernel_rfl) rfl ?_
      exact ret0 hcx rfl  (.refl _) (ew 600 rfl (box_leM (l' := [T.l (cZi k) D, T.l (cL (cZi k)) L, T.l (cQi k) ts, T.Zi a k, T.Zi b k, T.c (.int .i64 (mo : Int)), T.o 604, T.c (.bool (decide (acc.length + (fl s (nth (ctT D L ts s (n - 1) (n - 1 - s.length) s.length)) LL m).length ≤ mo)))]) ⟨.refl _, .refl _, .refl _, .refl _, .refl _, .refl _, .refl _, .of (congrArg (fun q => T.c (.bool q)) ((decide_eq_false (by omega)).symm)), trivial⟩) (ew 604 rfl (.of (by rw [fl_full hjm (by omega)])) en))
    · have hacl : ((acc ++ (fl s (nth (ctT D L ts s (n - 1) (n - 1 - s.length) s.length)) LL j)).take mo ++ [s ++ [nth (ctT D L ts s (n - 1) (n - 1 - s.length) s.length) j]]).length = acc.length + (fl s (nth (ctT D L ts s (n - 1) (n - 1 - s.length) s.length)) LL j).length + 1 := by rw [List.length_append, hln, List.length_singleton]
      have hfl := fl_len s (nth (ctT D L ts s (n - 1) (n - 1 - s.length) s.length)) LL j
      have hWi := fn_le (As := [T.l (cZ k) s, (cZ k).X ((kl (ctT D L ts s (n - 1) (n - 1 - s.length) s.length) (min m (mo - acc.length))).getD j (cZ k).dflt)]) (r11_with (s := s) (x := nth (ctT D L ts s (n - 1) (n - 1 - s.length) s.length) j) (k := k) (by omega) (by omega)) ⟨.refl _, .of (by rw [show (cZ k).dflt = 0 from rfl, kl_at q1]; rfl), trivial⟩
      refine tri_skip ?_
      refine nx (sl 0 rfl (sl 1 rfl (sl 4 rfl (sl 5 rfl (sl 6 rfl sn))))) (el 600 rfl (el 601 rfl en)) ?_
      refine tri_seq ?_
      refine tri_reg mixed hcx ?_ _ _
      refine mv rfl ?_
      refine mv rfl ?_
      refine mv rfl ?_
      refine ix rfl rfl slZs ⟨rfl, by omega⟩ ?_
      refine lf rfl tyZ ?_
      refine ca rfl (h := hWi) (hn := ?_)
      refine asg rfl ?_
      refine ⟨by kernel_rfl, ?_⟩
      refine nx (sl 0 rfl (sl 1 rfl (sl 4 rfl (sl 5 rfl (sl 6 rfl (sl 7 rfl sn)))))) (el 600 rfl (el 601 rfl en)) ?_
      refine tri_seq ?_
      refine tri_reg mixed hcx ?_ _ _
      refine mv rfl ?_
      refine mv rfl ?_
      refine nk rfl ?_
      refine fa rfl fLiL 8 ?_
      refine ld rfl rfl tyZss rfl ?_
      refine mv rfl ?_
      refine bs (c := cL (cZ k)) (xs := [s ++ [nth (ctT D L ts s (n - 1) (n - 1 - s.length) s.length) j]]) slZss rfl ⟨.refl _, trivial⟩ ?_
      refine ap 817 rfl rfl rfl slZss (by simp only [List.length_cons, List.length_nil]; omega) (by decide) ?_
      refine nk rfl ?_
      refine fa rfl fLiL 8 ?_
      refine st rfl rfl rfl tyZss rfl ?_
      refine ⟨by kernel_rfl, ?_⟩
      refine nx (sl 0 rfl (sl 1 rfl (sl 4 rfl (sl 5 rfl (sl 6 rfl (sl 7 rfl sn)))))) (el 600 rfl (el 817 rfl en)) ?_
      refine tri_sub (sl 0 rfl (sl 1 rfl (sl 4 rfl (sl 5 rfl (sl 6 rfl (sl 7 rfl sn)))))) (el 600 rfl (el 817 rfl en)) ?_
      refine tri_renb (bl := [T.l (cZi k) D, T.l (cL (cZi k)) L, T.l (cQi k) ts, T.Zi a k, T.Zi b k, T.c (.int .i64 (mo : Int)), T.o 817, T.c (.bool true)]) (bl' := [T.l (cZi k) D, T.l (cL (cZi k)) L, T.l (cQi k) ts, T.Zi a k, T.Zi b k, T.c (.int .i64 (mo : Int)), T.o 601, T.c (.bool true)]) 600 601 817 rfl rfl ⟨.inl ⟨rfl, by show 601 ∉ []; decide⟩, .inl ⟨rfl, by show 601 ∉ []; decide⟩, .inl ⟨rfl, by show 601 ∉ []; decide⟩, .inl ⟨rfl, by show 601 ∉ []; decide⟩, .inl ⟨rfl, by show 601 ∉ []; decide⟩, .inl ⟨rfl, by show 601 ∉ []; decide⟩, .inr ⟨rfl, rfl⟩, .inl ⟨rfl, by show 601 ∉ []; decide⟩, trivial⟩ (by rw [hcx]; kernel_rfl) rfl ?_
      refine tri_reg mixed hcx ?_ _ _
      refine mv rfl ?_
      refine mv rfl ?_
      refine cae (hE := (el 600 rfl (el 601 rfl en))) rfl (h := IH j (by omega) _ (by omega)) (hn := ?_)
      refine ⟨by kernel_rfl, ?_⟩
      refine pn_blk ?_
      refine nx (sl 0 rfl (sl 1 rfl (sl 4 rfl (sl 5 rfl (sl 6 rfl sn))))) (el 600 rfl (el 602 rfl en)) ?_
      refine tri_reg mixed hcx ?_ _ _
      refine mv rfl ?_
      refine ad (((j + 1 : Nat) : Int)) rfl rfl rfl (by omega) ?_
      refine asg rfl ?_
      refine ⟨by kernel_rfl, ?_⟩
      refine pn_sub (sl 0 rfl (sl 1 rfl (sl 4 rfl (sl 5 rfl (sl 6 rfl sn))))) (el 600 rfl (el 602 rfl en)) ?_
      refine pn_renb (bl := [T.l (cZi k) D, T.l (cL (cZi k)) L, T.l (cQi k) ts, T.Zi a k, T.Zi b k, T.c (.int .i64 (mo : Int)), T.o 602, T.c (.bool (decide (((acc ++ (fl s (nth (ctT D L ts s (n - 1) (n - 1 - s.length) s.length)) LL j)).take mo ++ [s ++ [nth (ctT D L ts s (n - 1) (n - 1 - s.length) s.length) j]]).length + (LL j).length ≤ mo)))]) (bl' := [T.l (cZi k) D, T.l (cL (cZi k)) L, T.l (cQi k) ts, T.Zi a k, T.Zi b k, T.c (.int .i64 (mo : Int)), T.o 601, T.c (.bool (decide (((acc ++ (fl s (nth (ctT D L ts s (n - 1) (n - 1 - s.length) s.length)) LL j)).take mo ++ [s ++ [nth (ctT D L ts s (n - 1) (n - 1 - s.length) s.length) j]]).length + (LL j).length ≤ mo)))]) 600 601 602 rfl rfl ⟨.inl ⟨rfl, by show 601 ∉ []; decide⟩, .inl ⟨rfl, by show 601 ∉ []; decide⟩, .inl ⟨rfl, by show 601 ∉ []; decide⟩, .inl ⟨rfl, by show 601 ∉ []; decide⟩, .inl ⟨rfl, by show 601 ∉ []; decide⟩, .inl ⟨rfl, by show 601 ∉ []; decide⟩, .inr ⟨rfl, rfl⟩, .inl ⟨rfl, by show 601 ∉ []; decide⟩, trivial⟩ (by rw [hcx]; kernel_rfl) rfl ?_
      exact pn_back (j + 1) (by first | omega | (dsimp only; omega)) (by omega) (sl 0 rfl (sl 1 rfl (sl 4 rfl (sl 5 rfl (sl 6 rfl sn))))) (ew 600 rfl (box_leM (l' := [T.l (cZi k) D, T.l (cL (cZi k)) L, T.l (cQi k) ts, T.Zi a k, T.Zi b k, T.c (.int .i64 (mo : Int)), T.o 601, T.c (.bool (decide (acc.length + (fl s (nth (ctT D L ts s (n - 1) (n - 1 - s.length) s.length)) LL (j + 1)).length ≤ mo)))]) ⟨.refl _, .refl _, .refl _, .refl _, .refl _, .refl _, .refl _, .of (congrArg (fun q => T.c (.bool q)) (decide_eq_decide.2 (by rw [hacl, hfl]; omega))), trivial⟩) (ew 601 rfl (.of (by rw [fl_next hp])) en))
  · rw [decide_eq_false hp]
    refine tri_reg mixed hcx ?_ _ _
    refine mv rfl ?_
    refine mv rfl ?_
    refine ln slZs rfl ?_
    refine clt rfl rfl (decide_eq_true (by omega)) ?_
    refine mv rfl ?_
    refine mv rfl ?_ (hg := gd1)
    refine nk rfl ?_ (hg := gd1)
    refine fa rfl fLiA 9 ?_ (hg := gd1)
    refine ld rfl rfl tyB rfl ?_ (hg := gd1)
    refine pk rfl rfl ?_
    refine ⟨by kernel_rfl, ?_⟩
    refine nx (sl 0 rfl (sl 1 rfl (sl 4 rfl (sl 5 rfl (sl 6 rfl (sl 53 rfl sn)))))) (el 600 rfl (el 601 rfl en)) ?_
    refine tri_false rfl rfl ?_
    refine tri_exit ?_
    repeat (first | refine pn_then ?_ | refine pn_oth (by decide) ?_)
    refine pn_ex ?_
    refine nx (sl 0 rfl (sl 5 rfl sn)) (el 600 rfl (el 601 rfl en)) ?_
    refine tri_reg mixed hcx ?_ _ _
    refine mv rfl ?_
    refine mv rfl ?_
    refine nk rfl ?_
    refine fa rfl fLiA 9 ?_
    refine ld rfl rfl tyB rfl ?_
    refine mv rfl ?_
    refine j_off rfl rfl rfl rfl ?_
    refine pk rfl rfl ?_
    refine nk rfl ?_
    refine fa rfl fLiA 9 ?_
    refine st rfl rfl rfl tyB rfl ?_
    refine ⟨by kernel_rfl, ?_⟩
    refine pn_off ?_
    refine pn_renb (bl := [T.l (cZi k) D, T.l (cL (cZi k)) L, T.l (cQi k) ts, T.Zi a k, T.Zi b k, T.c (.int .i64 (mo : Int)), T.o 601, T.c (.bool false)]) (bl' := [T.l (cZi k) D, T.l (cL (cZi k)) L, T.l (cQi k) ts, T.Zi a k, T.Zi b k, T.c (.int .i64 (mo : Int)), T.o 604, T.c (.bool false)]) 600 604 601 rfl rfl ⟨.inl ⟨rfl, by show 604 ∉ []; decide⟩, .inl ⟨rfl, by show 604 ∉ []; decide⟩, .inl ⟨rfl, by show 604 ∉ []; decide⟩, .inl ⟨rfl, by show 604 ∉ []; decide⟩, .inl ⟨rfl, by show 604 ∉ []; decide⟩, .inl ⟨rfl, by show 604 ∉ []; decide⟩, .inr ⟨rfl, rfl⟩, .inl ⟨rfl, by show 604 ∉ []; decide⟩, trivial⟩ (by rw [hcx]; kernel_rfl) rfl ?_
    exact ret0 hcx rfl  (.refl _) (ew 600 rfl (box_leM (l' := [T.l (cZi k) D, T.l (cL (cZi k)) L, T.l (cQi k) ts, T.Zi a k, T.Zi b k, T.c (.int .i64 (mo : Int)), T.o 604, T.c (.bool (decide (acc.length + (fl s (nth (ctT D L ts s (n - 1) (n - 1 - s.length) s.length)) LL m).length ≤ mo)))]) ⟨.refl _, .refl _, .refl _, .refl _, .refl _, .refl _, .refl _, .of (congrArg (fun q => T.c (.bool q)) ((decide_eq_false (by omega)).symm)), trivial⟩) (ew 604 rfl (.of (by rw [fl_full hjm (by omega)])) en))
  · rw [decide_eq_true hp, decide_eq_true hm]
    obtain rfl : m = j := by omega
    refine tri_reg mixed hcx ?_ _ _
    refine mv rfl ?_
    refine mv rfl ?_
    refine ln slZs rfl ?_
    refine clt rfl rfl (decide_eq_false (by omega)) ?_
    refine mv rfl ?_
    refine j_off rfl rfl rfl rfl ?_
    refine j_off rfl rfl rfl rfl ?_
    refine j_off rfl rfl rfl rfl ?_
    refine j_off rfl rfl rfl rfl ?_
    refine pk rfl rfl ?_
    refine ⟨by kernel_rfl, ?_⟩
    refine nx (sl 0 rfl (sl 1 rfl (sl 4 rfl (sl 5 rfl (sl 6 rfl (sl 53 rfl sn)))))) (el 600 rfl (el 601 rfl en)) ?_
    refine tri_false rfl rfl ?_
    refine tri_exit ?_
    repeat (first | refine pn_then ?_ | refine pn_oth (by decide) ?_)
    refine pn_ex ?_
    refine nx (sl 0 rfl (sl 5 rfl sn)) (el 600 rfl (el 601 rfl en)) ?_
    refine tri_reg mixed hcx ?_ _ _
    refine mv rfl ?_
    refine mv rfl ?_
    refine nk rfl ?_
    refine fa rfl fLiA 9 ?_
    refine ld rfl rfl tyB rfl ?_
    refine mv rfl ?_
    refine mv rfl ?_ (hg := gd1)
    refine pk rfl rfl ?_
    refine nk rfl ?_
    refine fa rfl fLiA 9 ?_
    refine st rfl rfl rfl tyB rfl ?_
    refine ⟨by kernel_rfl, ?_⟩
    refine pn_off ?_
    refine pn_renb (bl := [T.l (cZi k) D, T.l (cL (cZi k)) L, T.l (cQi k) ts, T.Zi a k, T.Zi b k, T.c (.int .i64 (mo : Int)), T.o 601, T.c (.bool true)]) (bl' := [T.l (cZi k) D, T.l (cL (cZi k)) L, T.l (cQi k) ts, T.Zi a k, T.Zi b k, T.c (.int .i64 (mo : Int)), T.o 604, T.c (.bool true)]) 600 604 601 rfl rfl ⟨.inl ⟨rfl, by show 604 ∉ []; decide⟩, .inl ⟨rfl, by show 604 ∉ []; decide⟩, .inl ⟨rfl, by show 604 ∉ []; decide⟩, .inl ⟨rfl, by show 604 ∉ []; decide⟩, .inl ⟨rfl, by show 604 ∉ []; decide⟩, .inl ⟨rfl, by show 604 ∉ []; decide⟩, .inr ⟨rfl, rfl⟩, .inl ⟨rfl, by show 604 ∉ []; decide⟩, trivial⟩ (by rw [hcx]; kernel_rfl) rfl ?_
    exact ret0 hcx rfl  (.refl _) (ew 600 rfl (box_leM (l' := [T.l (cZi k) D, T.l (cL (cZi k)) L, T.l (cQi k) ts, T.Zi a k, T.Zi b k, T.c (.int .i64 (mo : Int)), T.o 604, T.c (.bool (decide (acc.length + (fl s (nth (ctT D L ts s (n - 1) (n - 1 - s.length) s.length)) LL m).length ≤ mo)))]) ⟨.refl _, .refl _, .refl _, .refl _, .refl _, .refl _, .refl _, .of (congrArg (fun q => T.c (.bool q)) ((decide_eq_true hp).symm)), trivial⟩) (ew 604 rfl (.refl _) en))
  · rw [decide_eq_true hp, decide_eq_false (show ¬ m ≤ mo - acc.length by omega)]
    refine tri_reg mixed hcx ?_ _ _
    refine mv rfl ?_
    refine mv rfl ?_
    refine ln slZs rfl ?_
    refine clt rfl rfl (decide_eq_false (by omega)) ?_
    refine mv rfl ?_
    refine j_off rfl rfl rfl rfl ?_
    refine j_off rfl rfl rfl rfl ?_
    refine j_off rfl rfl rfl rfl ?_
    refine j_off rfl rfl rfl rfl ?_
    refine pk rfl rfl ?_
    refine ⟨by kernel_rfl, ?_⟩
    refine nx (sl 0 rfl (sl 1 rfl (sl 4 rfl (sl 5 rfl (sl 6 rfl (sl 53 rfl sn)))))) (el 600 rfl (el 601 rfl en)) ?_
    refine tri_false rfl rfl ?_
    refine tri_exit ?_
    repeat (first | refine pn_then ?_ | refine pn_oth (by decide) ?_)
    refine pn_ex ?_
    refine nx (sl 0 rfl (sl 5 rfl sn)) (el 600 rfl (el 601 rfl en)) ?_
    refine tri_reg mixed hcx ?_ _ _
    refine mv rfl ?_
    refine mv rfl ?_
    refine nk rfl ?_
    refine fa rfl fLiA 9 ?_
    refine ld rfl rfl tyB rfl ?_
    refine mv rfl ?_
    refine mv rfl ?_ (hg := gd1)
    refine pk rfl rfl ?_
    refine nk rfl ?_
    refine fa rfl fLiA 9 ?_
    refine st rfl rfl rfl tyB rfl ?_
    refine ⟨by kernel_rfl, ?_⟩
    refine pn_off ?_
    refine pn_renb (bl := [T.l (cZi k) D, T.l (cL (cZi k)) L, T.l (cQi k) ts, T.Zi a k, T.Zi b k, T.c (.int .i64 (mo : Int)), T.o 601, T.c (.bool false)]) (bl' := [T.l (cZi k) D, T.l (cL (cZi k)) L, T.l (cQi k) ts, T.Zi a k, T.Zi b k, T.c (.int .i64 (mo : Int)), T.o 604, T.c (.bool false)]) 600 604 601 rfl rfl ⟨.inl ⟨rfl, by show 604 ∉ []; decide⟩, .inl ⟨rfl, by show 604 ∉ []; decide⟩, .inl ⟨rfl, by show 604 ∉ []; decide⟩, .inl ⟨rfl, by show 604 ∉ []; decide⟩, .inl ⟨rfl, by show 604 ∉ []; decide⟩, .inl ⟨rfl, by show 604 ∉ []; decide⟩, .inr ⟨rfl, rfl⟩, .inl ⟨rfl, by show 604 ∉ []; decide⟩, trivial⟩ (by rw [hcx]; kernel_rfl) rfl ?_
    exact ret0 hcx rfl  (.refl _) (ew 600 rfl (box_leM (l' := [T.l (cZi k) D, T.l (cL (cZi k)) L, T.l (cQi k) ts, T.Zi a k, T.Zi b k, T.c (.int .i64 (mo : Int)), T.o 604, T.c (.bool (decide (acc.length + (fl s (nth (ctT D L ts s (n - 1) (n - 1 - s.length) s.length)) LL m).length ≤ mo)))]) ⟨.refl _, .refl _, .refl _, .refl _, .refl _, .refl _, .refl _, .of (congrArg (fun q => T.c (.bool q)) ((decide_eq_false (by omega)).symm)), trivial⟩) (ew 604 rfl (.of (by rw [fl_full hjm (by omega)])) en))
  · rw [decide_eq_false hp]
    refine tri_reg mixed hcx ?_ _ _
    refine mv rfl ?_
    refine mv rfl ?_
    refine ln slZs rfl ?_
    refine clt rfl rfl (decide_eq_false (by omega)) ?_
    refine mv rfl ?_
    refine j_off rfl rfl rfl rfl ?_
    refine j_off rfl rfl rfl rfl ?_
    refine j_off rfl rfl rfl rfl ?_
    refine j_off rfl rfl rfl rfl ?_
    refine pk rfl rfl ?_
    refine ⟨by kernel_rfl, ?_⟩
    refine nx (sl 0 rfl (sl 1 rfl (sl 4 rfl (sl 5 rfl (sl 6 rfl (sl 53 rfl sn)))))) (el 600 rfl (el 601 rfl en)) ?_
    refine tri_false rfl rfl ?_
    refine tri_exit ?_
    repeat (first | refine pn_then ?_ | refine pn_oth (by decide) ?_)
    refine pn_ex ?_
    refine nx (sl 0 rfl (sl 5 rfl sn)) (el 600 rfl (el 601 rfl en)) ?_
    refine tri_reg mixed hcx ?_ _ _
    refine mv rfl ?_
    refine mv rfl ?_
    refine nk rfl ?_
    refine fa rfl fLiA 9 ?_
    refine ld rfl rfl tyB rfl ?_
    refine mv rfl ?_
    refine j_off rfl rfl rfl rfl ?_
    refine pk rfl rfl ?_
    refine nk rfl ?_
    refine fa rfl fLiA 9 ?_
    refine st rfl rfl rfl tyB rfl ?_
    refine ⟨by kernel_rfl, ?_⟩
    refine pn_off ?_
    refine pn_renb (bl := [T.l (cZi k) D, T.l (cL (cZi k)) L, T.l (cQi k) ts, T.Zi a k, T.Zi b k, T.c (.int .i64 (mo : Int)), T.o 601, T.c (.bool false)]) (bl' := [T.l (cZi k) D, T.l (cL (cZi k)) L, T.l (cQi k) ts, T.Zi a k, T.Zi b k, T.c (.int .i64 (mo : Int)), T.o 604, T.c (.bool false)]) 600 604 601 rfl rfl ⟨.inl ⟨rfl, by show 604 ∉ []; decide⟩, .inl ⟨rfl, by show 604 ∉ []; decide⟩, .inl ⟨rfl, by show 604 ∉ []; decide⟩, .inl ⟨rfl, by show 604 ∉ []; decide⟩, .inl ⟨rfl, by show 604 ∉ []; decide⟩, .inl ⟨rfl, by show 604 ∉ []; decide⟩, .inr ⟨rfl, rfl⟩, .inl ⟨rfl, by show 604 ∉ []; decide⟩, trivial⟩ (by rw [hcx]; kernel_rfl) rfl ?_
    exact ret0 hcx rfl  (.refl _) (ew 600 rfl (box_leM (l' := [T.l (cZi k) D, T.l (cL (cZi k)) L, T.l (cQi k) ts, T.Zi a k, T.Zi b k, T.c (.int .i64 (mo : Int)), T.o 604, T.c (.bool (decide (acc.length + (fl s (nth (ctT D L ts s (n - 1) (n - 1 - s.length) s.length)) LL m).length ≤ mo)))]) ⟨.refl _, .refl _, .refl _, .refl _, .refl _, .refl _, .refl _, .of (congrArg (fun q => T.c (.bool q)) ((decide_eq_false (by omega)).symm)), trivial⟩) (ew 604 rfl (.of (by rw [fl_full hjm (by omega)])) en))
end Go.Proofs.YtekghdfbhbhigaaGreat.V
/- The document: the nodes of a tree. -/
set_option linter.unusedVariables false
set_option linter.unusedSimpArgs false
set_option maxRecDepth 100000
namespace Go.Proofs.YtekghdfbhbhigaaGreat.V
open Go.RowKit Mt Nml
/-- What the document's recursion writes: the nodes below, as far as there is room. -/
theorem r11_below {D : List Int} {L : List (List Int)} {ts : List (Int × Int)} {a b : Int} {n k : Nat} (h : TrS D L ts n k) (hb : 0 < b) {s : List Int} {d : Nat} {ns : List (List Int)} (hB : Bel D L ts n k ((a : Rat) / (b : Rat)) s d ns) : s.length = d → d ≤ n → ptT D L ts s (n - 1) s.length ≤ (a : Rat) / (b : Rat) → ∀ {mo : Nat} {acc : List (List Int)}, mo ≤ 65536 → acc.length ≤ mo → Fn Tryz.prog 131 [T.p 600 0, T.l (cZ k) s] [(600, Ent.box 171 [T.l (cZi k) D, T.l (cL (cZi k)) L, T.l (cQi k) ts, T.Zi a k, T.Zi b k, T.c (.int .i64 (mo : Int)), T.o 601, T.c (.bool true)]), (601, Ent.row (cL (cZ k)) 23 (acc))] [(600, Ent.box 171 [T.l (cZi k) D, T.l (cL (cZi k)) L, T.l (cQi k) ts, T.Zi a k, T.Zi b k, T.c (.int .i64 (mo : Int)), T.o 602, T.c (.bool (decide (acc.length + ns.length ≤ mo)))]), (602, Ent.row (cL (cZ k)) 23 ((acc ++ ns).take mo))] [602] (T.tup []) ∧ Fn Tryz.prog 131 [T.p 600 0, T.l (cZ k) s] [(600, Ent.box 171 [T.l (cZi k) D, T.l (cL (cZi k)) L, T.l (cQi k) ts, T.Zi a k, T.Zi b k, T.c (.int .i64 (mo : Int)), T.o 603, T.c (.bool true)]), (603, Ent.row (cL (cZ k)) 23 (acc))] [(600, Ent.box 171 [T.l (cZi k) D, T.l (cL (cZi k)) L, T.l (cQi k) ts, T.Zi a k, T.Zi b k, T.c (.int .i64 (mo : Int)), T.o 604, T.c (.bool (decide (acc.length + ns.length ≤ mo)))]), (604, Ent.row (cL (cZ k)) 23 ((acc ++ ns).take mo))] [604] (T.tup []) := by
  induction hB with
  | leaf s =>
    intro hs hd hin mo acc hmo hacc
    rw [List.append_nil, List.take_of_length_le hacc, List.length_nil, Nat.add_zero, decide_eq_true hacc]
    exact ⟨r11_leafa h hs, r11_leafb h hs⟩
  | node s d m LL hd hz hw hn hB ih =>
    intro hs hdn hin mo acc hmo hacc
    subst hs
    have key : ∀ j, j < m → ∀ ac : List (List Int), ac.length ≤ mo → _ := fun j hj ac hac => ih j hj (by simp) (by omega) (by have := hw j hj; rwa [show (s ++ [nth (ctT D L ts s (n - 1) (n - 1 - s.length) s.length) j]).length = s.length + 1 by simp]) (mo := mo) (acc := ac) hmo hac
    exact ⟨r11_nodea h hb (by omega) hz hw hn hmo hin hacc (fun j hj ac hac => (key j hj ac hac).2), r11_nodeb h hb (by omega) hz hw hn hmo hin hacc (fun j hj ac hac => (key j hj ac hac).1)⟩
theorem box_flat {et : TypeId} {l r : List T} : (Ent.box et (T.st l :: r)).le (Ent.box et (l ++ r)) := fun β u w v F ⟨b, cs, h1, h2, h3, h4⟩ => by
  obtain ⟨v1, r1, hz, ⟨cs1, e1, c1⟩, e, c2⟩ := h4
  subst e1
  refine ⟨b, cs, h1, h2, h3, ?_⟩
  rw [e]
  simpa [Value.cells] using Cells.append c1 c2

theorem r11_Under {D : List Int} {L : List (List Int)} {ts : List (Int × Int)} {a b : Int} {n k : Nat} (h : TrS D L ts n k) {ns : List (List Int)} {mo : Nat} (hb : 0 < b) (ha : 0 ≤ a) (hmo : mo ≤ 65536) (hB : Bel D L ts n k ((a : Rat) / (b : Rat)) [] 0 ns) : Fn Tryz.prog 78 [T.Tr D L ts a b k, T.l (cZ k) [], T.c (.int .i64 (mo : Int))] [] [] [] (T.tup [T.l (cL (cZ k)) (ns.take mo), T.c (.bool (decide (ns.length ≤ mo)))]) := by
  refine fn_of Tryz.func78 rfl (by show 3 ≤ 24; decide) fun cx hcx => ?_
  refine tri_sub (sl 0 rfl (sl 1 rfl (sl 2 rfl sn))) en ?_
  have hn12 := h.twelve
  have hkk := h.hk
  have hlL := h.len
  have hn0 := h.pos
  have hpt : ptT D L ts [] (n - 1) ([] : List Int).length ≤ (a : Rat) / (b : Rat) := by show (0 : Rat) ≤ _; rw [show (0 : Rat) = ((0 : Int) : Rat) from rfl, rle_div hb]; omega
  have hBe := (r11_below h hb hB rfl (Nat.zero_le _) hpt (acc := []) hmo (Nat.zero_le _)).1
  refine tri_seq ?_
  refine tri_reg mixed hcx ?_ _ _
  refine bxs 10 rfl ?_
  refine asg rfl ?_
  refine asg rfl ?_
  refine ⟨by kernel_rfl, ?_⟩
  refine nx (sl 1 rfl (sl 2 rfl (sl 3 rfl sn))) (el 10 rfl en) ?_
  refine tri_seq ?_
  refine tri_reg mixed hcx ?_ _ _
  refine ld rfl rfl tyTr rfl ?_
  refine mv rfl ?_
  refine bu stLi rfl ?_
  refine bxs 600 rfl ?_
  refine asg rfl ?_
  refine ⟨by kernel_rfl, ?_⟩
  refine nx (sl 1 rfl (sl 8 rfl sn)) (el 10 rfl (el 600 rfl en)) ?_
  refine tri_seq ?_
  refine tri_sub (sl 1 rfl (sl 8 rfl sn)) (ew 600 rfl (box_flat (l := [T.l (cZi k) D, T.l (cL (cZi k)) L, T.l (cQi k) ts, T.Zi a k, T.Zi b k]) (r := [T.c (.int .i64 (mo : Int)), T.c (.slice none 0 0), T.c (.bool true)])) en) ?_
  refine tri_nilb (cL (cZ k)) 23 (bl := [T.l (cZi k) D, T.l (cL (cZi k)) L, T.l (cQi k) ts, T.Zi a k, T.Zi b k, T.c (.int .i64 (mo : Int)), T.c (.slice none 0 0), T.c (.bool true)]) (bl' := [T.l (cZi k) D, T.l (cL (cZi k)) L, T.l (cQi k) ts, T.Zi a k, T.Zi b k, T.c (.int .i64 (mo : Int)), T.o 601, T.c (.bool true)]) 600 601 rfl ⟨.inl ⟨rfl, by show 601 ∉ []; decide⟩, .inl ⟨rfl, by show 601 ∉ []; decide⟩, .inl ⟨rfl, by show 601 ∉ []; decide⟩, .inl ⟨rfl, by show 601 ∉ []; decide⟩, .inl ⟨rfl, by show 601 ∉ []; decide⟩, .inl ⟨rfl, by show 601 ∉ []; decide⟩, .inr ⟨rfl, rfl⟩, .inl ⟨rfl, by show 601 ∉ []; decide⟩, trivial⟩ (by rw [hcx]; kernel_rfl) ?_
  refine tri_reg mixed hcx ?_ _ _
  refine mv rfl ?_
  refine mv rfl ?_
  refine cae (hE := (el 600 rfl (el 601 rfl en))) rfl (h := hBe) (hn := ?_)
  refine ⟨by kernel_rfl, ?_⟩
  refine nx (sl 8 rfl sn) (el 600 rfl (el 602 rfl en)) ?_
  refine tri_seq ?_
  refine tri_reg mixed hcx ?_ _ _
  refine mv rfl ?_
  refine nk rfl ?_
  refine fa rfl fLiL 8 ?_
  refine ld rfl rfl tyZss rfl ?_
  refine mv rfl ?_
  refine nk rfl ?_
  refine fa rfl fLiA 9 ?_
  refine ld rfl rfl tyB rfl ?_
  refine asg rfl ?_
  refine asg rfl ?_
  refine ⟨by kernel_rfl, ?_⟩
  refine nx (sl 6 rfl (sl 7 rfl sn)) (el 600 rfl (el 602 rfl en)) ?_
  refine tri_fz 602 rfl ?_
  refine tri_rd 6 602 rfl rfl ?_
  refine tri_ret ?_
  repeat (first | refine pn_thenr ?_ | refine pn_blkr ?_)
  exact ret2 hcx rfl (rv_tmp rfl) (rv_tmp rfl) (tup_le ⟨.of (by rw [List.nil_append]), .of (by rw [List.length_nil, Nat.zero_add]), trivial⟩) en

theorem r11_Nodes {D : List Int} {L : List (List Int)} {ts : List (Int × Int)} {a b : Int} {n k : Nat} (h : TrS D L ts n k) {ns : List (List Int)} {mo : Nat} (hb : 0 < b) (ha : 0 ≤ a) (hmo : mo ≤ 65536) (hB : Bel D L ts n k ((a : Rat) / (b : Rat)) [] 0 ns) : Fn Tryz.prog 27 [T.Tr D L ts a b k, T.c (.int .i64 (mo : Int))] [] [] [] (T.tup [T.l (cL (cZ k)) (ns.take mo), T.c (.bool (decide (ns.length ≤ mo)))]) := by
  refine fn_of Tryz.func27 rfl (by show 2 ≤ 11; decide) fun cx hcx => ?_
  refine tri_sub (sl 0 rfl (sl 1 rfl sn)) en ?_
  have hUn := fn_le (As := [T.Tr D L ts a b k, T.c (.slice none 0 0), T.c (.int .i64 (mo : Int))]) (r11_Under h hb ha hmo hB) ⟨.refl _, nil_l _, .refl _, trivial⟩
  refine tri_seq ?_
  refine tri_reg mixed hcx ?_ _ _
  refine bxs 10 rfl ?_
  refine asg rfl ?_
  refine asg rfl ?_
  refine ⟨by kernel_rfl, ?_⟩
  refine nx (sl 1 rfl (sl 2 rfl sn)) (el 10 rfl en) ?_
  refine tri_seq ?_
  refine tri_reg mixed hcx ?_ _ _
  refine ld rfl rfl tyTr rfl ?_
  refine mv rfl ?_
  refine ca rfl (h := hUn) (hn := ?_)
  refine ex rfl rfl ?_
  refine ex rfl rfl ?_
  refine asg rfl ?_
  refine asg rfl ?_
  refine ⟨by kernel_rfl, ?_⟩
  refine nx (sl 4 rfl (sl 5 rfl sn)) (el 10 rfl en) ?_
  refine tri_ret ?_
  repeat (first | refine pn_thenr ?_ | refine pn_blkr ?_)
  exact ret2 hcx rfl (rv_tmp rfl) (rv_tmp rfl) (.refl _) en
end Go.Proofs.YtekghdfbhbhigaaGreat.V
/- A search tree cut into jobs: one rule, and it comes to an end. -/
set_option linter.unusedVariables false
set_option maxRecDepth 100000
namespace Go.Proofs.YtekghdfbhbhigaaGreat.V
open Go.RowKit Mt Nml
theorem fl_congr {s : List Int} {x : Nat → Int} {LL LL' : Nat → List (List Int)} : ∀ {m : Nat}, (∀ j, j < m → LL j = LL' j) → fl s x LL m = fl s x LL' m
  | 0, _ => rfl
  | m + 1, h => by
    show fl s x LL m ++ _ = fl s x LL' m ++ _
    rw [fl_congr (m := m) fun j hj => h j (by omega), h m (by omega)]
theorem Bel.unique {D : List Int} {L : List (List Int)} {ts : List (Int × Int)} {n k : Nat} {R : Rat} {s : List Int} {d : Nat} {ns : List (List Int)} (h : Bel D L ts n k R s d ns) : ∀ {ns' : List (List Int)}, Bel D L ts n k R s d ns' → ns = ns' := by
  induction h with
  | leaf s =>
    intro ns' h'
    cases h' with
    | leaf => rfl
    | node s2 d2 m LL hd => omega
  | node s d m LL hd hz hw hn hB ih =>
    intro ns' h'
    cases h' with
    | leaf => omega
    | node s2 d2 m' LL' hd' hz' hw' hn' hB' =>
      have hm : m = m' := by
        rcases Nat.lt_trichotomy m m' with h | h | h
        · exact absurd (hw' m h) hn
        · exact h
        · exact absurd (hw m' h) hn'
      subst hm
      exact fl_congr fun j hj => ih j hj (hB' j hj)
section
variable (D : List Int) (L : List (List Int)) (ts : List (Int × Int)) (n k : Nat) (R : Rat)
/-- How many nodes there are below a suffix. -/
noncomputable def cN (q : List Int) : Nat := by
  classical
  exact if h : ∃ ns, Bel D L ts n k R q q.length ns then (Classical.choose h).length else 0
/-- The children of a suffix, the first m. -/
def kdL (q : List Int) (m : Nat) : List (List Int) := (List.range m).map fun j => q ++ [nth (cq_ D L ts n q) j]
/-- That many children of a suffix are nodes; none of their numbers is too long. -/
structure Kd (q : List Int) (m : Nat) : Prop where
  zl : ∀ j, j ≤ m → zl (nth (cq_ D L ts n q) j) ≤ k
  w : ∀ j, j < m → ptT D L ts (q ++ [nth (cq_ D L ts n q) j]) (n - 1) (q.length + 1) ≤ R
  n : ¬ ptT D L ts (q ++ [nth (cq_ D L ts n q) m]) (n - 1) (q.length + 1) ≤ R
/-- The rule: the first open job is cut, t times. -/
inductive JB (many : Nat) : Nat → List (List Int) → List (List Int) → Option (List (List Int) × List (List Int)) → Prop
  | full (t : Nat) (d l : List (List Int)) : many ≤ l.length → JB many t d l (some (d, l))
  | shut (t : Nat) (d l : List (List Int)) : l.length < many → (∀ i, i < l.length → ¬ (l.getD i []).length < n) → JB many t d l (some (d, l))
  | long (t : Nat) (d l : List (List Int)) (i m : Nat) : l.length < many → i < l.length → (l.getD i []).length < n → (∀ j, j < i → ¬ (l.getD j []).length < n) → Wi D L ts n R (l.getD i []) → Kd D L ts n k R (l.getD i []) m → d.length ≤ 100000 → 65536 < m → JB many t d l none
  | cut (t : Nat) (d l : List (List Int)) (i m : Nat) (res : Option (List (List Int) × List (List Int))) : l.length < many → i < l.length → (l.getD i []).length < n → (∀ j, j < i → ¬ (l.getD j []).length < n) → Wi D L ts n R (l.getD i []) → Kd D L ts n k R (l.getD i []) m → d.length ≤ 100000 → m ≤ 65536 →
      JB many t (if (l.getD i []).length = 0 then d else d ++ [l.getD i []]) (l.take i ++ l.drop (i + 1) ++ kdL D L ts n (l.getD i []) m) res → JB many (t + 1) d l res
end
section
variable {D : List Int} {L : List (List Int)} {ts : List (Int × Int)} {n k : Nat} {R : Rat}
theorem JB.inv {many t : Nat} {d l : List (List Int)} {res : Option (List (List Int) × List (List Int))} (h : JB D L ts n k R many t d l res) : (many ≤ l.length ∧ res = some (d, l)) ∨ (l.length < many ∧ (∀ i, i < l.length → ¬ (l.getD i []).length < n) ∧ res = some (d, l)) ∨
    (∃ i m, l.length < many ∧ i < l.length ∧ (l.getD i []).length < n ∧ (∀ j, j < i → ¬ (l.getD j []).length < n) ∧ Wi D L ts n R (l.getD i []) ∧ Kd D L ts n k R (l.getD i []) m ∧ d.length ≤ 100000 ∧ 65536 < m ∧ res = none) ∨
    ∃ t' i m, t = t' + 1 ∧ l.length < many ∧ i < l.length ∧ (l.getD i []).length < n ∧ (∀ j, j < i → ¬ (l.getD j []).length < n) ∧ Wi D L ts n R (l.getD i []) ∧ Kd D L ts n k R (l.getD i []) m ∧ d.length ≤ 100000 ∧ m ≤ 65536 ∧
      JB D L ts n k R many t' (if (l.getD i []).length = 0 then d else d ++ [l.getD i []]) (l.take i ++ l.drop (i + 1) ++ kdL D L ts n (l.getD i []) m) res := by
  cases h with
  | full _ _ _ h => exact .inl ⟨h, rfl⟩
  | shut _ _ _ h1 h2 => exact .inr (.inl ⟨h1, h2, rfl⟩)
  | long _ _ _ i m h1 h2 h3 h4 h5 h6 h7 h8 => exact .inr (.inr (.inl ⟨i, m, h1, h2, h3, h4, h5, h6, h7, h8, rfl⟩))
  | cut t' _ _ i m _ h1 h2 h3 h4 h5 h6 h7 h8 h9 => exact .inr (.inr (.inr ⟨t', i, m, rfl, h1, h2, h3, h4, h5, h6, h7, h8, h9⟩))
theorem cN_eq {q : List Int} {ns : List (List Int)} (h : Bel D L ts n k R q q.length ns) : cN D L ts n k R q = ns.length := by
  unfold cN
  have hex : ∃ ns, Bel D L ts n k R q q.length ns := ⟨ns, h⟩
  rw [dif_pos hex, Bel.unique (Classical.choose_spec hex) h]
/-- A job that may be: numbers of its depth's size, within the bound. -/
structure Gd (D : List Int) (L : List (List Int)) (ts : List (Int × Int)) (n k0 : Nat) (R : Rat) (q : List Int) : Prop where
  le : q.length ≤ n
  zl : ∀ j, zl (q.getD j 0) ≤ k0 + q.length * (k0 + 20)
  wi : Wi D L ts n R q
theorem Gd.nil {k0 : Nat} (hR : 0 ≤ R) : Gd D L ts n k0 R [] := ⟨Nat.zero_le _, fun j => by rw [show (([] : List Int)).getD j 0 = 0 from by simp, zl_zero]; exact Nat.zero_le _, hR⟩
theorem Gd.kids {k0 : Nat} (h : TrS D L ts n k0) (hK : k0 + 12 * (k0 + 20) ≤ k) (hR : Rb R k0) {q : List Int} (g : Gd D L ts n k0 R q) (ho : q.length < n) : ∃ m, Kd D L ts n k R q m ∧ ∀ j, j < m → Gd D L ts n k0 R (q ++ [nth (cq_ D L ts n q) j]) := by
  have hn := h.twelve
  obtain ⟨m, h1, h2, h3⟩ := kids_ex h (s := q) (b := k0 + q.length * (k0 + 20)) (by omega) g.zl ho hR
  have e1 : (q.length + 1) * (k0 + 20) = q.length * (k0 + 20) + (k0 + 20) := Nat.succ_mul _ _
  have e2 : (q.length + 1) * (k0 + 20) ≤ 12 * (k0 + 20) := Nat.mul_le_mul_right _ (by omega)
  refine ⟨m, ⟨fun j hj => by have := h1 j hj; show Nml.zl (nth (ctT D L ts q (n - 1) (n - 1 - q.length) q.length) j) ≤ k; omega, h2, h3⟩, fun j hj => ⟨by simp; omega, fun i => ?_, ?_⟩⟩
  · rw [getD_snoc', show (q ++ [nth (cq_ D L ts n q) j]).length = q.length + 1 by simp]
    split
    · have : Nml.zl (nth (cq_ D L ts n q) j) ≤ _ := h1 j (by omega)
      omega
    · have := g.zl i; omega
  · unfold Wi
    rw [show (q ++ [nth (cq_ D L ts n q) j]).length = q.length + 1 by simp]
    exact h2 j hj
/-- The weight of jobs. -/
noncomputable def wt (D : List Int) (L : List (List Int)) (ts : List (Int × Int)) (n k : Nat) (R : Rat) (l : List (List Int)) : Nat := (l.map fun q => 1 + cN D L ts n k R q).sum
theorem wt_append (a b : List (List Int)) : wt D L ts n k R (a ++ b) = wt D L ts n k R a + wt D L ts n k R b := by simp [wt]
theorem wt_cons (q : List Int) (b : List (List Int)) : wt D L ts n k R (q :: b) = 1 + cN D L ts n k R q + wt D L ts n k R b := by simp [wt]
theorem take_drop_at {l : List (List Int)} {i : Nat} (h : i < l.length) : l = l.take i ++ l.getD i [] :: l.drop (i + 1) := by
  rw [List.getD_eq_getElem?_getD, List.getElem?_eq_getElem h, Option.getD_some, List.getElem_cons_drop, List.take_append_drop]
theorem wt_kids {q : List Int} {m : Nat} {ns : List (List Int)} (hB : Bel D L ts n k R q q.length ns) (ho : q.length < n) (hK : Kd D L ts n k R q m) : wt D L ts n k R (kdL D L ts n q m) = cN D L ts n k R q := by
  rw [cN_eq hB]
  generalize hd : q.length = d at hB
  cases hB with
  | leaf => omega
  | node s2 d2 m' LL hd' hz' hw' hn' hB' =>
    subst hd
    have hm : m = m' := by
      rcases Nat.lt_trichotomy m m' with h | h | h
      · exact absurd (hw' m h) hK.n
      · exact h
      · exact absurd (hK.w m' h) hn'
    subst hm
    have key : ∀ j, j ≤ m → wt D L ts n k R (kdL D L ts n q j) = (fl q (nth (ctT D L ts q (n - 1) (n - 1 - q.length) q.length)) LL j).length := by
      intro j
      induction j with
      | zero => exact fun _ => rfl
      | succ j ih =>
        intro hj
        have e : kdL D L ts n q (j + 1) = kdL D L ts n q j ++ [q ++ [nth (cq_ D L ts n q) j]] := by simp [kdL, List.range_succ]
        have hb := hB' j (by omega)
        rw [show q.length + 1 = (q ++ [nth (ctT D L ts q (n - 1) (n - 1 - q.length) q.length) j]).length by simp] at hb
        have hc := cN_eq hb
        rw [e, wt_append, ih (by omega), fl_len, wt_cons, show cN D L ts n k R (q ++ [nth (cq_ D L ts n q) j]) = _ from hc]
        show _ + (1 + _ + 0) = _
        omega
    exact key m (Nat.le_refl _)
/-- The open jobs: the first a of e numbers, the others of one more. -/
def Ff (n e a : Nat) (l : List (List Int)) : Prop := ∃ A B, l.filter (fun q => decide (q.length < n)) = A ++ B ∧ A.length = a ∧ (∀ q ∈ A, q.length = e) ∧ ∀ q ∈ B, q.length = e + 1
theorem filter_first {l : List (List Int)} {i : Nat} (hi : i < l.length) (ho : (l.getD i []).length < n) (hc : ∀ j, j < i → ¬ (l.getD j []).length < n) : l.filter (fun q => decide (q.length < n)) = l.getD i [] :: (l.drop (i + 1)).filter (fun q => decide (q.length < n)) ∧ (l.take i).filter (fun q => decide (q.length < n)) = [] := by
  have h1 : (l.take i).filter (fun q => decide (q.length < n)) = [] := by
    rw [List.filter_eq_nil_iff]
    intro q hq
    obtain ⟨j, hj, rfl⟩ := List.getElem_of_mem hq
    rw [List.length_take] at hj
    have := hc j (by omega)
    rw [List.getD_eq_getElem?_getD, List.getElem?_eq_getElem (by omega), Option.getD_some] at this
    simpa using this
  refine ⟨?_, h1⟩
  conv => lhs; rw [take_drop_at hi]
  rw [List.filter_append, h1, List.nil_append, List.filter_cons, if_pos (by simpa using ho)]
theorem ff_cut {e a : Nat} {l : List (List Int)} {i m : Nat} (hF : Ff n e a l) (hi : i < l.length) (ho : (l.getD i []).length < n) (hc : ∀ j, j < i → ¬ (l.getD j []).length < n) :
    (0 < a ∧ (l.getD i []).length = e ∧ Ff n e (a - 1) (l.take i ++ l.drop (i + 1) ++ kdL D L ts n (l.getD i []) m)) ∨ (a = 0 ∧ ∃ a', a' < l.length ∧ Ff n (e + 1) a' (l.take i ++ l.drop (i + 1) ++ kdL D L ts n (l.getD i []) m)) := by
  obtain ⟨A, B, h1, h2, h3, h4⟩ := hF
  obtain ⟨f1, f2⟩ := filter_first hi ho hc
  rw [f1] at h1
  have hk : ∀ q ∈ (kdL D L ts n (l.getD i []) m).filter (fun q => decide (q.length < n)), q.length = (l.getD i []).length + 1 := fun q hq => by
    have := (List.mem_filter.1 hq).1
    unfold kdL at this
    obtain ⟨j, _, rfl⟩ := List.mem_map.1 this
    simp
  have hf : (l.take i ++ l.drop (i + 1) ++ kdL D L ts n (l.getD i []) m).filter (fun q => decide (q.length < n)) = (l.drop (i + 1)).filter (fun q => decide (q.length < n)) ++ (kdL D L ts n (l.getD i []) m).filter (fun q => decide (q.length < n)) := by
    rw [List.filter_append, List.filter_append, f2, List.nil_append]
  cases A with
  | cons q A =>
    simp only [List.cons_append, List.cons.injEq] at h1
    obtain ⟨rfl, h1⟩ := h1
    have he := h3 _ List.mem_cons_self
    refine .inl ⟨by rw [← h2]; simp, he, A, B ++ (kdL D L ts n (l.getD i []) m).filter (fun q => decide (q.length < n)), by rw [hf, h1, List.append_assoc], by rw [← h2]; simp, fun q hq => h3 q (List.mem_cons_of_mem _ hq), fun q hq => ?_⟩
    rcases List.mem_append.1 hq with h | h
    · exact h4 q h
    · rw [hk q h, he]
  | nil =>
    simp only [List.nil_append] at h1
    have hlen : ((l.drop (i + 1)).filter (fun q => decide (q.length < n))).length ≤ l.length - (i + 1) := by
      have := List.length_filter_le (fun q : List Int => decide (q.length < n)) (l.drop (i + 1))
      rwa [List.length_drop] at this
    refine .inr ⟨by rw [← h2]; rfl, ((l.drop (i + 1)).filter (fun q => decide (q.length < n))).length, by omega, _, (kdL D L ts n (l.getD i []) m).filter (fun q => decide (q.length < n)), hf, rfl, fun q hq => h4 q (by rw [← h1]; exact List.mem_cons_of_mem _ hq), fun q hq => ?_⟩
    rw [hk q hq, h4 (l.getD i []) (by rw [← h1]; exact List.mem_cons_self)]
/-- It comes to an end. -/
theorem JB.ex {k0 many : Nat} (h : TrS D L ts n k0) (hK : k0 + 12 * (k0 + 20) ≤ k) (hR : Rb R k0) (hmany : many ≤ 4096) : ∀ (T : Nat) (d l : List (List Int)) (e a : Nat), wt D L ts n k R l ≤ T → (∀ q ∈ l, Gd D L ts n k0 R q) → Ff n e a l → e ≤ n → d.length + a ≤ 4096 * (e + 1) → ∃ t res, JB D L ts n k R many t d l res
  | T, d, l, e, a, hT, hG, hF, he, hd => by
    classical
    have hn := h.twelve
    by_cases hl : many ≤ l.length
    · exact ⟨0, _, .full _ _ _ hl⟩
    by_cases hs : ∀ i, i < l.length → ¬ (l.getD i []).length < n
    · exact ⟨0, _, .shut _ _ _ (by omega) hs⟩
    obtain ⟨i, hi, ho, hc⟩ := least_not hs
    have ho' : (l.getD i []).length < n := Classical.not_not.1 ho
    have hmem : l.getD i [] ∈ l := by rw [List.getD_eq_getElem?_getD, List.getElem?_eq_getElem hi]; exact List.getElem_mem hi
    have hg := hG _ hmem
    obtain ⟨m, hk, hgk⟩ := hg.kids h hK hR ho'
    have hd2 : d.length ≤ 100000 := by
      have : 4096 * (e + 1) ≤ 4096 * 13 := Nat.mul_le_mul_left _ (by omega)
      omega
    rcases Nat.lt_or_ge 65536 m with hm | hm
    · exact ⟨0, _, .long _ _ _ i m (by omega) hi ho' hc hg.wi hk hd2 hm⟩
    obtain ⟨ns, hB⟩ := Bel.ex h hK hR (n - (l.getD i []).length) (s := l.getD i []) rfl (by omega) hg.zl
    have hw1 : wt D L ts n k R l = wt D L ts n k R (l.take i) + (1 + cN D L ts n k R (l.getD i []) + wt D L ts n k R (l.drop (i + 1))) := by
      conv => lhs; rw [take_drop_at hi]
      rw [wt_append, wt_cons]
    have hw2 : wt D L ts n k R (l.take i ++ l.drop (i + 1) ++ kdL D L ts n (l.getD i []) m) + 1 = wt D L ts n k R l := by
      rw [wt_append, wt_append, wt_kids hB ho' hk, hw1]; omega
    have hdl : (if (l.getD i []).length = 0 then d else d ++ [l.getD i []]).length ≤ d.length + 1 := by
      split
      · omega
      · simp
    have hG2 : ∀ q ∈ l.take i ++ l.drop (i + 1) ++ kdL D L ts n (l.getD i []) m, Gd D L ts n k0 R q := fun q hq => by
      rcases List.mem_append.1 hq with hq | hq
      · rcases List.mem_append.1 hq with hq | hq
        · exact hG q (List.mem_of_mem_take hq)
        · exact hG q (List.mem_of_mem_drop hq)
      · unfold kdL at hq
        obtain ⟨j, hj, rfl⟩ := List.mem_map.1 hq
        exact hgk j (by simpa using hj)
    have hT1 : 0 < T := by omega
    rcases ff_cut (D := D) (L := L) (ts := ts) (m := m) hF hi ho' hc with ⟨ha, hle, hF2⟩ | ⟨ha, a', ha', hF2⟩
    · obtain ⟨t, res, hJ⟩ := JB.ex h hK hR hmany (T - 1) (if (l.getD i []).length = 0 then d else d ++ [l.getD i []]) _ e (a - 1) (by omega) hG2 hF2 he (by omega)
      exact ⟨t + 1, res, .cut _ _ _ i m _ (by omega) hi ho' hc hg.wi hk hd2 hm hJ⟩
    · have he2 : e + 1 ≤ n := by
        obtain ⟨A, B, h1, h2, h3, h4⟩ := hF
        obtain ⟨f1, _⟩ := filter_first hi ho' hc
        rw [f1] at h1
        have hA : A = [] := List.eq_nil_of_length_eq_zero (by omega)
        subst hA
        have := h4 (l.getD i []) (by rw [List.nil_append] at h1; rw [← h1]; exact List.mem_cons_self)
        omega
      obtain ⟨t, res, hJ⟩ := JB.ex h hK hR hmany (T - 1) (if (l.getD i []).length = 0 then d else d ++ [l.getD i []]) _ (e + 1) a' (by omega) hG2 hF2 he2 (by
        have : 4096 * (e + 1 + 1) = 4096 * (e + 1) + 4096 := Nat.mul_succ _ _
        omega)
      exact ⟨t + 1, res, .cut _ _ _ i m _ (by omega) hi ho' hc hg.wi hk hd2 hm hJ⟩
termination_by T => T
/-- From the whole tree. -/
theorem JB.ex0 {k0 many : Nat} (h : TrS D L ts n k0) (hK : k0 + 12 * (k0 + 20) ≤ k) (hR : Rb R k0) (hR0 : 0 ≤ R) (hmany : many ≤ 4096) : ∃ t res, JB D L ts n k R many t [] [[]] res := by
  have hp := h.pos
  refine JB.ex h hK hR hmany _ [] [[]] 0 1 (Nat.le_refl _) (fun q hq => by rw [List.mem_singleton.1 hq]; exact Gd.nil hR0) ⟨[[]], [], ?_, rfl, fun q hq => by rw [List.mem_singleton.1 hq]; rfl, fun q hq => by cases hq⟩ (Nat.zero_le _) (by decide)
  rw [List.filter_cons, if_pos (by simpa using hp)]
  rfl
end
section
variable (D : List Int) (L : List (List Int)) (ts : List (Int × Int)) (n k : Nat) (R : Rat) (many : Nat)
/-- Job i is the first open one; m of its children are nodes. -/
structure Cut (d l : List (List Int)) (i m : Nat) : Prop where
  lt : l.length < many
  hi : i < l.length
  ho : (l.getD i []).length < n
  hc : ∀ j, j < i → ¬ (l.getD j []).length < n
  wi : Wi D L ts n R (l.getD i [])
  kd : Kd D L ts n k R (l.getD i []) m
  dl : d.length ≤ 100000
def Stp (d l d' l' : List (List Int)) : Prop := ∃ i m, Cut D L ts n k R many d l i m ∧ m ≤ 65536 ∧ d' = (if (l.getD i []).length = 0 then d else d ++ [l.getD i []]) ∧ l' = l.take i ++ l.drop (i + 1) ++ kdL D L ts n (l.getD i []) m
def Sto (d l : List (List Int)) (res : Option (List (List Int) × List (List Int))) : Prop := (many ≤ l.length ∧ res = some (d, l)) ∨ (l.length < many ∧ (∀ i, i < l.length → ¬ (l.getD i []).length < n) ∧ res = some (d, l)) ∨ ∃ i m, Cut D L ts n k R many d l i m ∧ 65536 < m ∧ res = none
end
/-- The states that the rule goes through. -/
theorem JB.trace {D : List Int} {L : List (List Int)} {ts : List (Int × Int)} {n k : Nat} {R : Rat} {many t : Nat} {d l : List (List Int)} {res : Option (List (List Int) × List (List Int))} (h : JB D L ts n k R many t d l res) :
    ∃ (T : Nat) (dd ll : Nat → List (List Int)), dd 0 = d ∧ ll 0 = l ∧ (∀ j, j < T → Stp D L ts n k R many (dd j) (ll j) (dd (j + 1)) (ll (j + 1))) ∧ Sto D L ts n k R many (dd T) (ll T) res := by
  induction h with
  | full t d l h => exact ⟨0, fun _ => d, fun _ => l, rfl, rfl, fun j hj => absurd hj (Nat.not_lt_zero _), .inl ⟨h, rfl⟩⟩
  | shut t d l h1 h2 => exact ⟨0, fun _ => d, fun _ => l, rfl, rfl, fun j hj => absurd hj (Nat.not_lt_zero _), .inr (.inl ⟨h1, h2, rfl⟩)⟩
  | long t d l i m h1 h2 h3 h4 h5 h6 h7 h8 => exact ⟨0, fun _ => d, fun _ => l, rfl, rfl, fun j hj => absurd hj (Nat.not_lt_zero _), .inr (.inr ⟨i, m, ⟨h1, h2, h3, h4, h5, h6, h7⟩, h8, rfl⟩)⟩
  | cut t d l i m res h1 h2 h3 h4 h5 h6 h7 h8 h9 ih =>
    obtain ⟨T, dd, ll, k1, k2, k3, k4⟩ := ih
    refine ⟨T + 1, fun j => match j with | 0 => d | j + 1 => dd j, fun j => match j with | 0 => l | j + 1 => ll j, rfl, rfl, fun j hj => ?_, k4⟩
    match j, hj with
    | 0, _ => exact ⟨i, m, ⟨h1, h2, h3, h4, h5, h6, h7⟩, h8, k1, k2⟩
    | j + 1, hj => exact k3 j (by omega)
theorem kdL_succ {D : List Int} {L : List (List Int)} {ts : List (Int × Int)} {n : Nat} {q : List Int} {m : Nat} : kdL D L ts n q m ++ [q ++ [nth (cq_ D L ts n q) m]] = kdL D L ts n q (m + 1) := by simp [kdL, List.range_succ]
theorem kdL_len {D : List Int} {L : List (List Int)} {ts : List (Int × Int)} {n : Nat} {q : List Int} {m : Nat} : (kdL D L ts n q m).length = m := by simp [kdL]
end Go.Proofs.YtekghdfbhbhigaaGreat.V
/- The law of filters is awake. -/
set_option linter.unusedVariables false
set_option linter.unusedSimpArgs false
set_option maxRecDepth 100000
namespace Go.Proofs.YtekghdfbhbhigaaGreat.V
open Go.RowKit Mt Nml
theorem z_st {z : Int} {k : Nat} (h : zl z ≤ k) : (T.st [T.c (.bool (decide (z < 0))), T.l cU (dig z.natAbs)]).le (T.Z z k) := fun β u v r => ⟨(), h, r⟩
end Go.Proofs.YtekghdfbhbhigaaGreat.V
/- A tree cut into jobs: the queue. -/
set_option linter.unusedVariables false
set_option linter.unusedSimpArgs false
set_option maxRecDepth 100000
namespace Go.Proofs.YtekghdfbhbhigaaGreat.V
open Go.RowKit Mt Nml
theorem tyJb : Ty Tryz.prog 76 true 1 := ⟨by kernel_rfl, by kernel_rfl⟩
theorem tyJbs : Ty Tryz.prog 70 false 1 := ⟨by kernel_rfl, by kernel_rfl⟩
theorem fJbR : FieldT Tryz.prog 76 0 0 false 1 := FieldT.mk' tyZs
theorem fQjL : FieldT Tryz.prog 123 0 0 false 1 := FieldT.mk' tyJbs
theorem slJbs : SlT Tryz.prog 70 76 1 24 := SlT.mk (.agg #[.slice none 0 0])
theorem stJb : StructT Tryz.prog 76 [T.c (.slice none 0 0)] [(0, 1)] := StructT.mk' (zs := [.slice none 0 0])
theorem stQj : StructT Tryz.prog 123 [T.c (.slice none 0 0)] [(0, 1)] := StructT.mk' (zs := [.slice none 0 0])
theorem zeJb : Zero Tryz.prog 76 [T.c (.slice none 0 0)] := zero_of (zs := [.slice none 0 0]) (z := .agg #[.slice none 0 0]) (by kernel_rfl)
theorem ci_b {a b : Bool} (h : a = b) : (T.c (.bool a)).le (T.c (.bool b)) := .of (by rw [h])
/-- Jobs, told by their roots. -/
def cJ (k : Nat) : Cod (List Int) := ⟨fun q => T.st [T.l (cZ k) q], 1, [], fun _ => rfl, fun _ => rfl, by decide⟩
instance (k : Nat) (q : List Int) : Sp ((cJ k).X q) [T.l (cZ k) q] := ⟨.refl _⟩

theorem sp_put2 {l : List (List Int)} {q : List Int} {k : Nat} (hl : l.length ≤ 1048576) : Fn Tryz.prog 80 [T.p 600 0, T.st [T.l (cZ k) q]] [(600, Ent.box 123 [T.o 602]), (602, Ent.ap (cJ k) 76 (l))] [(600, Ent.box 123 [T.o 603]), (603, Ent.row (cJ k) 76 (l ++ [q]))] [603] (T.tup []) := by
  refine fn_of Tryz.func80 rfl (by show 2 ≤ 14; decide) fun cx hcx => ?_
  refine tri_sub (sl 0 rfl (sl 1 rfl sn)) (el 600 rfl (el 602 rfl en)) ?_
  refine tri_seq ?_
  refine tri_reg mixed hcx ?_ _ _
  refine bxs 10 rfl ?_
  refine ⟨by kernel_rfl, ?_⟩
  refine nx (sl 0 rfl (sl 3 rfl sn)) (el 600 rfl (el 602 rfl (el 10 rfl en))) ?_
  refine tri_reg mixed hcx ?_ _ _
  refine mv rfl ?_
  refine mv rfl ?_
  refine nk rfl ?_
  refine fa rfl fQjL 0 ?_
  refine ld rfl rfl tyJbs rfl ?_
  refine ld rfl rfl tyJb rfl ?_
  refine bs (c := cJ k) (xs := [q]) slJbs rfl ⟨.refl _, trivial⟩ ?_
  refine apa (c := cJ k) 603 rfl rfl rfl slJbs (by omega) (by decide) ?_
  refine nk rfl ?_
  refine fa rfl fQjL 0 ?_
  refine st rfl rfl rfl tyJbs rfl ?_
  refine ⟨by kernel_rfl, ?_⟩
  refine pn_off ?_
  exact ret0 hcx rfl  (.refl _) (el 600 rfl (el 603 rfl en))

theorem sp_put0 {l : List (List Int)} {q : List Int} {k : Nat}  : Fn Tryz.prog 80 [T.p 600 0, T.st [T.l (cZ k) q]] [(600, Ent.box 123 [T.c (.slice none 0 0)])] [(600, Ent.box 123 [T.o 601]), (601, Ent.row (cJ k) 76 ([q]))] [601] (T.tup []) := by
  refine fn_of Tryz.func80 rfl (by show 2 ≤ 14; decide) fun cx hcx => ?_
  refine tri_sub (sl 0 rfl (sl 1 rfl sn)) (el 600 rfl en) ?_
  refine tri_seq ?_
  refine tri_reg mixed hcx ?_ _ _
  refine bxs 10 rfl ?_
  refine ⟨by kernel_rfl, ?_⟩
  refine nx (sl 0 rfl (sl 3 rfl sn)) (el 600 rfl (el 10 rfl en)) ?_
  refine tri_reg mixed hcx ?_ _ _
  refine mv rfl ?_
  refine mv rfl ?_
  refine nk rfl ?_
  refine fa rfl fQjL 0 ?_
  refine ld rfl rfl tyJbs rfl ?_
  refine ld rfl rfl tyJb rfl ?_
  refine bs (c := cJ k) (xs := [q]) slJbs rfl ⟨.refl _, trivial⟩ ?_
  refine apn (c := cJ k) 601 rfl rfl slJbs (by show 1 * 24 ≤ _; decide) (by decide) ?_
  refine nk rfl ?_
  refine fa rfl fQjL 0 ?_
  refine st rfl rfl rfl tyJbs rfl ?_
  refine ⟨by kernel_rfl, ?_⟩
  refine pn_off ?_
  exact ret0 hcx rfl  (.refl _) (el 600 rfl (el 601 rfl en))

theorem sp_goes {D : List Int} {L : List (List Int)} {ts : List (Int × Int)} {a b : Int} {k k2 : Nat} {q : List Int} : Fn Tryz.prog 82 [T.st [T.l (cZ k) q], T.fp (T.Tr D L ts a b k2)] [] [] [] (T.c (.bool (decide (q.length < L.length)))) := by
  refine fn_of Tryz.func82 rfl (by show 2 ≤ 12; decide) fun cx hcx => ?_
  refine tri_sub (sl 0 rfl (sl 1 rfl sn)) en ?_
  refine tri_seq ?_
  refine tri_reg mixed hcx ?_ _ _
  refine bxs 10 rfl ?_
  refine asg rfl ?_
  refine ⟨by kernel_rfl, ?_⟩
  refine nx (sl 1 rfl (sl 2 rfl sn)) (el 10 rfl en) ?_
  refine tri_seq ?_
  refine tri_reg mixed hcx ?_ _ _
  refine fa rfl fJbR 0 ?_
  refine ld rfl rfl tyZs rfl ?_
  refine ln slZs rfl ?_
  refine ff rfl fTrG rfl ?_
  refine ff rfl fL rfl ?_
  refine lf rfl tyZss ?_
  refine ln slZss rfl ?_
  refine clt rfl rfl rfl ?_
  refine asg rfl ?_
  refine ⟨by kernel_rfl, ?_⟩
  refine nx (sl 3 rfl sn) (el 10 rfl en) ?_
  refine tri_ret ?_
  repeat (first | refine pn_thenr ?_ | refine pn_blkr ?_)
  exact ret1 hcx rfl (rv_tmp rfl) (.of (by rw [decide_eq_decide.2 Int.ofNat_lt])) en

theorem sp_longer {q : List Int} {x : Int} {k : Nat} (hq : q.length ≤ 1048576) (hk : k ≤ 1099511627776) : Fn Tryz.prog 83 [T.l (cZi k) q, T.Z x k] [] [] [] (T.l (cZ k) (q ++ [x])) := by
  refine fn_of Tryz.func83 rfl (by show 2 ≤ 28; decide) fun cx hcx => ?_
  refine tri_sub (sl 0 rfl (sl 1 rfl sn)) en ?_
  refine tri_z 1 rfl fun hxz => ?_
  refine tri_seq ?_
  refine tri_reg mixed hcx ?_ _ _
  refine bxs 10 rfl ?_
  refine asg rfl ?_
  refine ⟨by kernel_rfl, ?_⟩
  refine nx (sl 0 rfl (sl 3 rfl sn)) (el 10 rfl en) ?_
  refine tri_seq ?_
  refine tri_reg mixed hcx ?_ _ _
  refine mv rfl ?_
  refine ln slZs rfl ?_
  refine ad (((q.length + 1 : Nat) : Int)) rfl rfl rfl (by omega) ?_
  refine mk0 (c := (cZ k)) (n := (q.length + 1)) 113 slZs rfl rfl (by omega) (by decide) ?_
  refine asg rfl ?_
  refine ⟨by kernel_rfl, ?_⟩
  refine nx (sl 0 rfl (sl 3 rfl (sl 5 rfl sn))) (el 10 rfl (el 113 rfl en)) ?_
  refine tri_seq ?_
  refine tri_seq ?_
  refine tri_reg mixed hcx ?_ _ _
  refine mv rfl ?_
  refine ln slZs rfl ?_
  refine mv rfl ?_
  refine ⟨by kernel_rfl, ?_⟩
  refine nx (sl 3 rfl (sl 5 rfl (sl 12 rfl (sl 13 rfl (sl 14 rfl sn))))) (el 10 rfl (el 113 rfl en)) ?_
  refine tri_block ?_
  refine tri_loop (ι := Nat) (fun i => [(3, T.p 10 0), (5, T.o 113), (12, T.l (cZi k) q), (13, T.c (.int .i64 (q.length : Int))), (14, T.c (.int .i64 (i : Int)))]) (fun i => [(10, some (Ent.box 32 [T.c (.bool (decide (x < 0))), T.l cU (dig x.natAbs)])), (113, some (Ent.row (cZ k) 32 (q.take i)))]) (fun i => q.length - i) (fun i => (i ≤ q.length)) 0 (Nat.zero_le _) (sl 3 rfl (sl 5 rfl (sl 12 rfl (sl 13 rfl (sl 14 rfl sn))))) (el 10 rfl (el 113 rfl en)) ?_
  rintro i hi
  refine tri_sub (sl 3 rfl (sl 5 rfl (sl 12 rfl (sl 13 rfl (sl 14 rfl sn))))) (el 10 rfl (el 113 rfl en)) ?_
  have htk : (q.take i).length = i := by rw [List.length_take]; omega
  refine tri_seq ?_
  refine tri_reg mixed hcx ?_ _ _
  refine clt rfl rfl rfl ?_
  refine ⟨by kernel_rfl, ?_⟩
  refine nx (sl 3 rfl (sl 5 rfl (sl 12 rfl (sl 13 rfl (sl 14 rfl (sl 15 rfl sn)))))) (el 10 rfl (el 113 rfl en)) ?_
  refine tri_seq ?_
  refine tri_if rfl (fun hc => ?_) (fun hc => ?_)
  · have hc2 : i < q.length := by omega
    refine tri_skip ?_
    refine nx (sl 3 rfl (sl 5 rfl (sl 12 rfl (sl 13 rfl (sl 14 rfl sn))))) (el 10 rfl (el 113 rfl en)) ?_
    refine tri_seq ?_
    refine tri_block ?_
    refine tri_seq ?_
    refine tri_reg mixed hcx ?_ _ _
    refine ix rfl rfl slZs ⟨rfl, by omega⟩ ?_
    refine lf rfl tyZ ?_
    refine nw 412 zeZ ?_
    refine st rfl rfl rfl tyZ rfl ?_
    refine ⟨by kernel_rfl, ?_⟩
    refine nx (sl 3 rfl (sl 5 rfl (sl 7 rfl (sl 12 rfl (sl 13 rfl (sl 14 rfl sn)))))) (el 10 rfl (el 113 rfl (el 412 rfl en))) ?_
    refine tri_reg mixed hcx ?_ _ _
    refine mv rfl ?_
    refine ld rfl rfl tyZ rfl ?_
    refine ca rfl (h := zi_Form (by omega)) (hn := ?_)
    refine bs (c := cZ k) (xs := [q.getD i (cZi k).dflt]) slZs rfl ⟨.refl _, trivial⟩ ?_
    refine ap 514 rfl rfl rfl slZs (by simp only [List.length_cons, List.length_nil]; omega) (by decide) ?_
    refine asg rfl ?_
    refine ⟨by kernel_rfl, ?_⟩
    refine pn_blk ?_
    refine nx (sl 3 rfl (sl 5 rfl (sl 12 rfl (sl 13 rfl (sl 14 rfl sn))))) (el 10 rfl (el 412 rfl (el 514 rfl en))) ?_
    refine tri_reg mixed hcx ?_ _ _
    refine ad (((i + 1 : Nat) : Int)) rfl rfl rfl (by omega) ?_
    refine mv rfl ?_
    refine ⟨by kernel_rfl, ?_⟩
    refine pn_sub (sl 3 rfl (sl 5 rfl (sl 12 rfl (sl 13 rfl (sl 14 rfl sn))))) (el 10 rfl (el 412 rfl (el 514 rfl en))) ?_
    refine pn_ren 5 113 514 rfl rfl (by rw [hcx]; kernel_rfl) ?_
    exact pn_back (i + 1) (by first | omega | (dsimp only; omega)) (by omega) (sl 3 rfl (sl 5 rfl (sl 12 rfl (sl 13 rfl (sl 14 rfl sn))))) (el 10 rfl (ew 113 rfl (.of (by rw [show (cZi k).dflt = 0 from rfl, take_snoc hc2])) en))
  · refine tri_exit ?_
    repeat (first | refine pn_then ?_ | refine pn_oth (by decide) ?_)
    refine pn_ex ?_
    have hin : i = q.length := by omega
    refine nx (sl 3 rfl (sl 5 rfl sn)) (el 10 rfl (el 113 rfl en)) ?_
    refine tri_seq ?_
    refine tri_reg mixed hcx ?_ _ _
    refine mv rfl ?_
    refine ld rfl rfl tyZ rfl ?_
    refine bs (c := cZ k) (xs := [x]) slZs rfl ⟨z_st hxz, trivial⟩ ?_
    refine ap 713 rfl rfl rfl slZs (by simp only [List.length_cons, List.length_nil]; omega) (by decide) ?_
    refine asg rfl ?_
    refine ⟨by kernel_rfl, ?_⟩
    refine nx (sl 4 rfl sn) (el 10 rfl (el 713 rfl en)) ?_
    refine tri_fz 713 rfl ?_
    refine tri_rd 4 713 rfl rfl ?_
    refine tri_ret ?_
    repeat (first | refine pn_thenr ?_ | refine pn_blkr ?_)
    exact ret1 hcx rfl (rv_tmp rfl) (.of (by rw [hin, List.take_length])) en

theorem sp_take {D : List Int} {L : List (List Int)} {ts : List (Int × Int)} {a b : Int} {k k2 : Nat} {l : List (List Int)} {i : Nat} (hl : l.length ≤ 1048576) (hi : i < l.length) (ho : (l.getD i []).length < L.length) (hc : ∀ j, j < i → ¬ (l.getD j []).length < L.length) : Fn Tryz.prog 81 [T.p 600 0, T.fn 82 [T.fp (T.Tr D L ts a b k2)]] [(600, Ent.box 123 [T.o 601]), (601, Ent.ap (cJ k) 76 (l))] [(600, Ent.box 123 [T.o 602]), (602, Ent.ap (cJ k) 76 (l.take i ++ l.drop (i + 1)))] [602] (T.tup [T.st [T.l (cZ k) (l.getD i [])], T.c (.bool true)]) := by
  refine fn_of Tryz.func81 rfl (by show 2 ≤ 43; decide) fun cx hcx => ?_
  refine tri_sub (sl 0 rfl (sl 1 rfl sn)) (el 600 rfl (el 601 rfl en)) ?_
  refine tri_seq ?_
  refine tri_reg mixed hcx ?_ _ _
  refine nw 10 zeJb ?_
  refine asg rfl ?_
  refine ⟨by kernel_rfl, ?_⟩
  refine nx (sl 0 rfl (sl 1 rfl (sl 4 rfl sn))) (el 600 rfl (el 601 rfl (el 10 rfl en))) ?_
  refine tri_seq ?_
  refine tri_seq ?_
  refine tri_fza 601 rfl ?_
  refine tri_rdb (bl := [T.o 601]) (bl' := [T.l (cJ k) l]) 600 601 rfl rfl ⟨.inr ⟨rfl, rfl⟩, trivial⟩ ?_
  refine tri_reg mixed hcx ?_ _ _
  refine mv rfl ?_
  refine nk rfl ?_
  refine fa rfl fQjL 0 ?_
  refine ld rfl rfl tyJbs rfl ?_
  refine ln slJbs rfl ?_
  refine mv rfl ?_
  refine ⟨by kernel_rfl, ?_⟩
  refine nx (sl 0 rfl (sl 1 rfl (sl 4 rfl (sl 12 rfl (sl 13 rfl (sl 14 rfl sn)))))) (el 600 rfl (el 10 rfl en)) ?_
  refine tri_block ?_
  refine tri_loop (ι := Nat) (fun e => [(0, T.p 600 0), (1, T.fn 82 [T.fp (T.Tr D L ts a b k2)]), (4, T.p 10 0), (12, T.l (cJ k) l), (13, T.c (.int .i64 (l.length : Int))), (14, T.c (.int .i64 (e : Int)))]) (fun e => [(600, some (Ent.box 123 [T.l (cJ k) l])), (10, some (Ent.box 76 [T.c (.slice none 0 0)]))]) (fun e => l.length - e) (fun e => (e ≤ i)) 0 (Nat.zero_le _) (sl 0 rfl (sl 1 rfl (sl 4 rfl (sl 12 rfl (sl 13 rfl (sl 14 rfl sn)))))) (el 600 rfl (el 10 rfl en)) ?_
  rintro e he
  refine tri_sub (sl 0 rfl (sl 1 rfl (sl 4 rfl (sl 12 rfl (sl 13 rfl (sl 14 rfl sn)))))) (el 600 rfl (el 10 rfl en)) ?_
  refine tri_seq ?_
  refine tri_reg mixed hcx ?_ _ _
  refine clt rfl rfl (decide_eq_true (by omega)) ?_
  refine ⟨by kernel_rfl, ?_⟩
  refine nx (sl 0 rfl (sl 1 rfl (sl 4 rfl (sl 12 rfl (sl 13 rfl (sl 14 rfl (sl 15 rfl sn))))))) (el 600 rfl (el 10 rfl en)) ?_
  refine tri_seq ?_
  refine tri_true rfl rfl ?_
  refine tri_skip ?_
  refine nx (sl 0 rfl (sl 1 rfl (sl 4 rfl (sl 12 rfl (sl 13 rfl (sl 14 rfl sn)))))) (el 600 rfl (el 10 rfl en)) ?_
  refine tri_seq ?_
  refine tri_block ?_
  refine tri_seq ?_
  refine tri_reg mixed hcx ?_ _ _
  refine mv rfl ?_
  refine ix rfl rfl slJbs ⟨rfl, by omega⟩ ?_
  refine lf rfl tyJb ?_
  refine nw 313 zeJb ?_
  refine asg rfl ?_
  refine st rfl rfl rfl tyJb rfl ?_
  refine ⟨by kernel_rfl, ?_⟩
  refine nx (sl 0 rfl (sl 1 rfl (sl 4 rfl (sl 6 rfl (sl 7 rfl (sl 12 rfl (sl 13 rfl (sl 14 rfl sn)))))))) (el 600 rfl (el 10 rfl (el 313 rfl en))) ?_
  refine tri_seq ?_
  rcases Nat.eq_or_lt_of_le he with heq | hlt
  · obtain rfl : e = i := heq
    refine tri_reg mixed hcx ?_ _ _
    refine mv rfl ?_
    refine ld rfl rfl tyJb rfl ?_
    refine cf rfl rfl (fn_out (sp_goes (q := l.getD e []) (k := k) (k2 := k2) (D := D) (L := L) (ts := ts) (a := a) (b := b)) (ci_b (decide_eq_true ho))) (by intro a w; kernel_rfl) ?_
    refine ⟨by kernel_rfl, ?_⟩
    refine nx (sl 0 rfl (sl 1 rfl (sl 4 rfl (sl 6 rfl (sl 7 rfl (sl 12 rfl (sl 13 rfl (sl 14 rfl (sl 21 rfl sn))))))))) (el 600 rfl (el 10 rfl (el 313 rfl en))) ?_
    refine tri_true rfl rfl ?_
    refine tri_seq ?_
    refine tri_reg mixed hcx ?_ _ _
    refine mv rfl ?_
    refine mv rfl ?_
    refine nk rfl ?_
    refine fa rfl fQjL 0 ?_
    refine ld rfl rfl tyJbs rfl ?_
    refine mv rfl ?_
    refine mv rfl ?_
    refine sh3x (hi := e) rfl slJbs rfl rfl ⟨rfl, rfl, by omega⟩ ?_
    refine mv rfl ?_
    refine nk rfl ?_
    refine fa rfl fQjL 0 ?_
    refine ld rfl rfl tyJbs rfl ?_
    refine mv rfl ?_
    refine ad (((e + 1 : Nat) : Int)) rfl rfl rfl (by omega) ?_
    refine sr rfl slJbs rfl ⟨rfl, by omega⟩ ?_
    refine apx (c := cJ k) 602 rfl rfl slJbs (by rw [List.length_take, List.length_drop]; omega) (by decide) ?_
    refine nk rfl ?_
    refine fa rfl fQjL 0 ?_
    refine st rfl rfl rfl tyJbs rfl ?_
    refine ⟨by kernel_rfl, ?_⟩
    refine nx (sl 4 rfl (sl 7 rfl sn)) (el 600 rfl (el 10 rfl (el 313 rfl (el 602 rfl en)))) ?_
    refine tri_seq ?_
    refine tri_reg mixed hcx ?_ _ _
    refine ld rfl rfl tyJb rfl ?_
    refine st rfl rfl rfl tyJb rfl ?_
    refine asg rfl ?_
    refine ⟨by kernel_rfl, ?_⟩
    refine nx (sl 4 rfl (sl 5 rfl sn)) (el 600 rfl (el 10 rfl (el 313 rfl (el 602 rfl en)))) ?_
    refine tri_ret ?_
    repeat (first | refine pn_thenr ?_ | refine pn_blkr ?_)
    exact ret2 hcx rfl (rv_cell (c' := cx) (n := 0) rfl rfl tyJb rfl) (rv_tmp rfl) (.refl _) (el 600 rfl (el 602 rfl en))
  · have hne := hc e hlt
    refine tri_reg mixed hcx ?_ _ _
    refine mv rfl ?_
    refine ld rfl rfl tyJb rfl ?_
    refine cf rfl rfl (fn_out (sp_goes (q := l.getD e []) (k := k) (k2 := k2) (D := D) (L := L) (ts := ts) (a := a) (b := b)) (ci_b (decide_eq_false hne))) (by intro a w; kernel_rfl) ?_
    refine ⟨by kernel_rfl, ?_⟩
    refine nx (sl 0 rfl (sl 1 rfl (sl 4 rfl (sl 6 rfl (sl 7 rfl (sl 12 rfl (sl 13 rfl (sl 14 rfl (sl 21 rfl sn))))))))) (el 600 rfl (el 10 rfl (el 313 rfl en))) ?_
    refine tri_false rfl rfl ?_
    refine tri_skip ?_
    refine pn_blk ?_
    refine nx (sl 0 rfl (sl 1 rfl (sl 4 rfl (sl 12 rfl (sl 13 rfl (sl 14 rfl sn)))))) (el 600 rfl (el 10 rfl (el 313 rfl en))) ?_
    refine tri_reg mixed hcx ?_ _ _
    refine ad (((e + 1 : Nat) : Int)) rfl rfl rfl (by omega) ?_
    refine mv rfl ?_
    refine ⟨by kernel_rfl, ?_⟩
    exact pn_back (e + 1) (by first | omega | (dsimp only; omega)) (by omega) (sl 0 rfl (sl 1 rfl (sl 4 rfl (sl 12 rfl (sl 13 rfl (sl 14 rfl sn)))))) (el 600 rfl (el 10 rfl en))

theorem sp_take_no {D : List Int} {L : List (List Int)} {ts : List (Int × Int)} {a b : Int} {k k2 : Nat} {l : List (List Int)} (hl : l.length ≤ 1048576) (hc : ∀ j, j < l.length → ¬ (l.getD j []).length < L.length) : Fn Tryz.prog 81 [T.p 600 0, T.fn 82 [T.fp (T.Tr D L ts a b k2)]] [(600, Ent.box 123 [T.o 601]), (601, Ent.ap (cJ k) 76 (l))] [(600, Ent.box 123 [T.l (cJ k) l])] [] (T.tup [T.st [T.c (.slice none 0 0)], T.c (.bool false)]) := by
  refine fn_of Tryz.func81 rfl (by show 2 ≤ 43; decide) fun cx hcx => ?_
  refine tri_sub (sl 0 rfl (sl 1 rfl sn)) (el 600 rfl (el 601 rfl en)) ?_
  refine tri_seq ?_
  refine tri_reg mixed hcx ?_ _ _
  refine nw 10 zeJb ?_
  refine asg rfl ?_
  refine ⟨by kernel_rfl, ?_⟩
  refine nx (sl 0 rfl (sl 1 rfl (sl 4 rfl sn))) (el 600 rfl (el 601 rfl (el 10 rfl en))) ?_
  refine tri_seq ?_
  refine tri_seq ?_
  refine tri_fza 601 rfl ?_
  refine tri_rdb (bl := [T.o 601]) (bl' := [T.l (cJ k) l]) 600 601 rfl rfl ⟨.inr ⟨rfl, rfl⟩, trivial⟩ ?_
  refine tri_reg mixed hcx ?_ _ _
  refine mv rfl ?_
  refine nk rfl ?_
  refine fa rfl fQjL 0 ?_
  refine ld rfl rfl tyJbs rfl ?_
  refine ln slJbs rfl ?_
  refine mv rfl ?_
  refine ⟨by kernel_rfl, ?_⟩
  refine nx (sl 0 rfl (sl 1 rfl (sl 4 rfl (sl 12 rfl (sl 13 rfl (sl 14 rfl sn)))))) (el 600 rfl (el 10 rfl en)) ?_
  refine tri_block ?_
  refine tri_loop (ι := Nat) (fun e => [(0, T.p 600 0), (1, T.fn 82 [T.fp (T.Tr D L ts a b k2)]), (4, T.p 10 0), (12, T.l (cJ k) l), (13, T.c (.int .i64 (l.length : Int))), (14, T.c (.int .i64 (e : Int)))]) (fun e => [(600, some (Ent.box 123 [T.l (cJ k) l])), (10, some (Ent.box 76 [T.c (.slice none 0 0)]))]) (fun e => l.length - e) (fun e => (e ≤ l.length)) 0 (Nat.zero_le _) (sl 0 rfl (sl 1 rfl (sl 4 rfl (sl 12 rfl (sl 13 rfl (sl 14 rfl sn)))))) (el 600 rfl (el 10 rfl en)) ?_
  rintro e he
  refine tri_sub (sl 0 rfl (sl 1 rfl (sl 4 rfl (sl 12 rfl (sl 13 rfl (sl 14 rfl sn)))))) (el 600 rfl (el 10 rfl en)) ?_
  refine tri_seq ?_
  refine tri_reg mixed hcx ?_ _ _
  refine clt rfl rfl rfl ?_
  refine ⟨by kernel_rfl, ?_⟩
  refine nx (sl 0 rfl (sl 1 rfl (sl 4 rfl (sl 12 rfl (sl 13 rfl (sl 14 rfl (sl 15 rfl sn))))))) (el 600 rfl (el 10 rfl en)) ?_
  refine tri_seq ?_
  refine tri_if rfl (fun hcc => ?_) (fun hcc => ?_)
  · have hlt : e < l.length := by omega
    have hne := hc e hlt
    refine tri_skip ?_
    refine nx (sl 0 rfl (sl 1 rfl (sl 4 rfl (sl 12 rfl (sl 13 rfl (sl 14 rfl sn)))))) (el 600 rfl (el 10 rfl en)) ?_
    refine tri_seq ?_
    refine tri_block ?_
    refine tri_seq ?_
    refine tri_reg mixed hcx ?_ _ _
    refine mv rfl ?_
    refine ix rfl rfl slJbs ⟨rfl, by omega⟩ ?_
    refine lf rfl tyJb ?_
    refine nw 313 zeJb ?_
    refine asg rfl ?_
    refine st rfl rfl rfl tyJb rfl ?_
    refine ⟨by kernel_rfl, ?_⟩
    refine nx (sl 0 rfl (sl 1 rfl (sl 4 rfl (sl 6 rfl (sl 7 rfl (sl 12 rfl (sl 13 rfl (sl 14 rfl sn)))))))) (el 600 rfl (el 10 rfl (el 313 rfl en))) ?_
    refine tri_seq ?_
    refine tri_reg mixed hcx ?_ _ _
    refine mv rfl ?_
    refine ld rfl rfl tyJb rfl ?_
    refine cf rfl rfl (fn_out (sp_goes (q := l.getD e []) (k := k) (k2 := k2) (D := D) (L := L) (ts := ts) (a := a) (b := b)) (ci_b (decide_eq_false hne))) (by intro a w; kernel_rfl) ?_
    refine ⟨by kernel_rfl, ?_⟩
    refine nx (sl 0 rfl (sl 1 rfl (sl 4 rfl (sl 6 rfl (sl 7 rfl (sl 12 rfl (sl 13 rfl (sl 14 rfl (sl 21 rfl sn))))))))) (el 600 rfl (el 10 rfl (el 313 rfl en))) ?_
    refine tri_false rfl rfl ?_
    refine tri_skip ?_
    refine pn_blk ?_
    refine nx (sl 0 rfl (sl 1 rfl (sl 4 rfl (sl 12 rfl (sl 13 rfl (sl 14 rfl sn)))))) (el 600 rfl (el 10 rfl (el 313 rfl en))) ?_
    refine tri_reg mixed hcx ?_ _ _
    refine ad (((e + 1 : Nat) : Int)) rfl rfl rfl (by omega) ?_
    refine mv rfl ?_
    refine ⟨by kernel_rfl, ?_⟩
    exact pn_back (e + 1) (by first | omega | (dsimp only; omega)) (by omega) (sl 0 rfl (sl 1 rfl (sl 4 rfl (sl 12 rfl (sl 13 rfl (sl 14 rfl sn)))))) (el 600 rfl (el 10 rfl en))
  · refine tri_exit ?_
    repeat (first | refine pn_then ?_ | refine pn_oth (by decide) ?_)
    refine pn_ex ?_
    refine nx (sl 4 rfl sn) (el 600 rfl (el 10 rfl en)) ?_
    refine tri_seq ?_
    refine tri_reg mixed hcx ?_ _ _
    refine nw 810 zeJb ?_
    refine ⟨by kernel_rfl, ?_⟩
    refine nx (sl 4 rfl (sl 8 rfl sn)) (el 600 rfl (el 10 rfl (el 810 rfl en))) ?_
    refine tri_seq ?_
    refine tri_reg mixed hcx ?_ _ _
    refine ld rfl rfl tyJb rfl ?_
    refine st rfl rfl rfl tyJb rfl ?_
    refine asg rfl ?_
    refine ⟨by kernel_rfl, ?_⟩
    refine nx (sl 4 rfl (sl 5 rfl sn)) (el 600 rfl (el 10 rfl (el 810 rfl en))) ?_
    refine tri_ret ?_
    repeat (first | refine pn_thenr ?_ | refine pn_blkr ?_)
    exact ret2 hcx rfl (rv_cell (c' := cx) (n := 0) rfl rfl tyJb rfl) (rv_tmp rfl) (.refl _) (el 600 rfl en)
end Go.Proofs.YtekghdfbhbhigaaGreat.V
