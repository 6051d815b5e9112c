/- Search trees: iterators. -/
import Derived.Test.YtekghdfbhbhigaaGreatM05
set_option linter.unusedVariables false
set_option linter.unusedSimpArgs false
set_option maxRecDepth 100000
namespace Go.Proofs.YtekghdfbhbhigaaGreat.V
open Go.RowKit Mt Nml
theorem tyYc : Ty Tryz.prog 160 false 1 := ⟨by kernel_rfl, by kernel_rfl⟩
theorem tyCh : Ty Tryz.prog 109 true 6 := ⟨by kernel_rfl, by kernel_rfl⟩
theorem fChx : FieldT Tryz.prog 109 0 0 true 2 := FieldT.mk' tyZ
abbrev T.Y (l : Nat) : T := T.c (.func (.yield l) #[] #[])
/-- A child: a number, a part. -/
abbrev T.Ch (x : Int) (k : Nat) (q : Rat) (m : Nat) : T := T.st [T.Z x k, T.Q q m]
theorem cq_le {x y : Rat} : cq x y ≤ 0 ↔ x ≤ y := by
  unfold cq
  by_cases h : x < y
  · rw [if_pos h]; exact ⟨fun _ => Rat.le_of_lt h, fun _ => by decide⟩
  · rw [if_neg h]
    by_cases h2 : y < x
    · rw [if_pos h2]; exact ⟨fun h => absurd h (by decide), fun h => absurd h (Rat.not_le.2 h2)⟩
    · rw [if_neg h2]; exact ⟨fun _ => Rat.not_lt.1 h2, fun _ => by decide⟩

theorem t_zig1 {l : Nat} {Z : Nat → Ent0} {zf : Ent0} {c : Rat} {k kx K : Nat} (hk : k ≤ 1073741824) (hkx : kx ≤ 1073741824) (hz : ∀ j, j ≤ K → zl (nth c j) ≤ kx) (hY : ∀ j, j < K → YOk Tryz.prog l (T.Z (nth c j) kx) (Z j) true (Z (j + 1))) (hf : YOk Tryz.prog l (T.Z (nth c K) kx) (Z K) false zf) : Fn Tryz.prog 164 [T.Y l, T.fp (T.V c k)] [(700, Ent.ab (Z 0))] [(700, Ent.ab zf)] [] (T.tup []) := by
  refine fn_of Tryz.func164 rfl (by show 2 ≤ 16; decide) fun cx hcx => ?_
  refine tri_sub (sl 0 rfl (sl 1 rfl sn)) (el 700 rfl en) ?_
  refine tri_seq ?_
  refine tri_reg mixed hcx ?_ _ _
  refine lf rfl tyQ ?_
  refine cb rfl (h := rv_Near (by omega)) (hn := ?_)
  refine mv rfl ?_
  refine ex rfl rfl ?_
  refine ex rfl rfl ?_
  refine nw 15 zeZ ?_
  refine st rfl rfl rfl tyZ rfl ?_
  refine asg rfl ?_
  refine ⟨by kernel_rfl, ?_⟩
  refine nx (sl 0 rfl (sl 1 rfl (sl 3 rfl sn))) (el 700 rfl (el 15 rfl en)) ?_
  refine tri_block ?_
  refine tri_loop (ι := Nat) (fun j => [(0, T.Y l), (1, T.fp (T.V c k)), (3, T.p 15 0)]) (fun j => [(15, some (Ent.box 32 [T.Z (nth c j) kx])), (700, some (Ent.ab (Z j)))]) (fun j => K - j) (fun j => (j ≤ K)) 0 (Nat.zero_le _) (sl 0 rfl (sl 1 rfl (sl 3 rfl sn))) (ew 15 rfl (box_pack1 ((T.le.of (by rw [nth_zero])).trans (z_as (hz 0 (Nat.zero_le _))))) (el 700 rfl en)) ?_
  rintro j hj
  refine tri_sub (sl 0 rfl (sl 1 rfl (sl 3 rfl sn))) (el 15 rfl (el 700 rfl en)) ?_
  refine tri_seq ?_
  refine tri_seq ?_
  rcases Nat.lt_or_ge j K with hlt | hge
  · refine tri_reg mixed hcx ?_ _ _
    refine mv rfl ?_
    refine ld rfl rfl tyZ rfl ?_
    refine yd (e := 700) rfl rfl rfl (hY j hlt) (.refl _) ?_
    refine ⟨by kernel_rfl, ?_⟩
    refine nx (sl 0 rfl (sl 1 rfl (sl 3 rfl (sl 12 rfl sn)))) (el 15 rfl (el 700 rfl en)) ?_
    refine tri_true rfl rfl ?_
    refine tri_skip ?_
    refine nx (sl 0 rfl (sl 1 rfl (sl 3 rfl sn))) (el 15 rfl (el 700 rfl en)) ?_
    refine tri_block ?_
    refine tri_reg mixed hcx ?_ _ _
    refine lf rfl tyQ ?_
    refine ld rfl rfl tyZ rfl ?_
    refine cb rfl (h := t_behind (by omega) (by omega)) (hn := ?_)
    refine st rfl rfl rfl tyZ rfl ?_
    refine ⟨by kernel_rfl, ?_⟩
    refine pn_blk ?_
    exact pn_back (j + 1) (by first | omega | (dsimp only; omega)) (by omega) (sl 0 rfl (sl 1 rfl (sl 3 rfl sn))) (ew 15 rfl (box_pack1 ((T.le.of (by rw [bhd_nth])).trans (z_as (hz (j + 1) (by omega))))) (el 700 rfl en))
  · obtain rfl : j = K := by omega
    refine tri_reg mixed hcx ?_ _ _
    refine mv rfl ?_
    refine ld rfl rfl tyZ rfl ?_
    refine yd (e := 700) rfl rfl rfl (hf) (.refl _) ?_
    refine ⟨by kernel_rfl, ?_⟩
    refine nx (sl 0 rfl (sl 1 rfl (sl 3 rfl (sl 12 rfl sn)))) (el 15 rfl (el 700 rfl en)) ?_
    refine tri_false rfl rfl ?_
    refine tri_exit ?_
    repeat (first | refine pn_then ?_ | refine pn_oth (by decide) ?_)
    refine pn_ex ?_
    refine pn_off ?_
    exact ret0 hcx rfl  (.refl _) (el 700 rfl en)

theorem t_zig {c : Rat} {k : Nat} : Fn Tryz.prog 122 [T.V c k] [] [] [] (T.fn 164 [T.fp (T.V c k)]) := by
  refine fn_of Tryz.func122 rfl (by show 1 ≤ 4; decide) fun cx hcx => ?_
  refine tri_sub (sl 0 rfl sn) en ?_
  refine tri_seq ?_
  refine tri_reg mixed hcx ?_ _ _
  refine bx 10 rfl ?_
  refine asg rfl ?_
  refine ⟨by kernel_rfl, ?_⟩
  refine nx (sl 1 rfl sn) (el 10 rfl en) ?_
  refine tri_seq ?_
  refine tri_fzb 1 10 rfl rfl (fun h => Nat.noConfusion h) ?_
  refine tri_as 1 (Z := T.fp (T.V c k)) rfl (fp_st1) ?_
  refine tri_reg mixed hcx ?_ _ _
  refine mf rfl ?_
  refine asg rfl ?_
  refine ⟨by kernel_rfl, ?_⟩
  refine nx (sl 2 rfl sn) en ?_
  refine tri_ret ?_
  repeat (first | refine pn_thenr ?_ | refine pn_blkr ?_)
  exact ret1 hcx rfl (rv_tmp rfl) (.refl _) en

theorem t_within {D : List Int} {L : List (List Int)} {ts : List (Int × Int)} {a b : Int} {k : Nat} {p : Rat} {kp : Nat} (hb : 0 < b) (hk : k ≤ 16777216) (hkp : kp ≤ 17179869184) : Fn Tryz.prog 64 [T.Tr D L ts a b k, T.V p kp] [] [] [] (T.c (.bool (decide (p ≤ (a : Rat) / (b : Rat))))) := by
  refine fn_of Tryz.func64 rfl (by show 2 ≤ 16; decide) fun cx hcx => ?_
  refine tri_sub (sl 0 rfl (sl 1 rfl sn)) en ?_
  refine tri_seq ?_
  refine tri_reg mixed hcx ?_ _ _
  refine bxs 10 rfl ?_
  refine bx 11 rfl ?_
  refine asg rfl ?_
  refine ⟨by kernel_rfl, ?_⟩
  refine nx (sl 2 rfl (sl 3 rfl sn)) (el 10 rfl (el 11 rfl en)) ?_
  refine tri_seq ?_
  refine tri_reg mixed hcx ?_ _ _
  refine ld rfl rfl tyQ rfl ?_
  refine fa rfl fTrR 3 ?_
  refine ld rfl rfl tyQ rfl ?_
  refine cb rfl (h := rv_Cmp (by omega) (by omega)) (hn := ?_)
  refine mv rfl ?_
  refine ex rfl rfl ?_
  refine ex rfl rfl ?_
  refine asg rfl ?_
  refine asg rfl ?_
  refine ⟨by kernel_rfl, ?_⟩
  refine nx (sl 5 rfl sn) (el 10 rfl (el 11 rfl en)) ?_
  refine tri_seq ?_
  refine tri_reg mixed hcx ?_ _ _
  refine mv rfl ?_
  refine cle rfl rfl rfl ?_
  refine asg rfl ?_
  refine ⟨by kernel_rfl, ?_⟩
  refine nx (sl 4 rfl sn) (el 10 rfl (el 11 rfl en)) ?_
  refine tri_ret ?_
  repeat (first | refine pn_thenr ?_ | refine pn_blkr ?_)
  exact ret1 hcx rfl (rv_tmp rfl) (.of (by rw [decide_eq_decide.2 cq_le])) en

theorem stCh : StructT Tryz.prog 109 [T.c (.bool false), T.c (.slice none 0 0), T.c (.bool false), T.c (.slice none 0 0), T.c (.bool false), T.c (.slice none 0 0)] [(0, 2), (2, 4)] := StructT.mk' (zs := [.bool false, .slice none 0 0, .bool false, .slice none 0 0, .bool false, .slice none 0 0])
theorem zeCh : Zero Tryz.prog 109 [T.c (.bool false), T.c (.slice none 0 0), T.c (.bool false), T.c (.slice none 0 0), T.c (.bool false), T.c (.slice none 0 0)] := zero_of (zs := [.bool false, .slice none 0 0, .bool false, .slice none 0 0, .bool false, .slice none 0 0]) (z := .agg #[.bool false, .slice none 0 0, .bool false, .slice none 0 0, .bool false, .slice none 0 0]) (by kernel_rfl)
theorem getD_snoc {s : List Int} {x : Int} (j : Nat) : (s ++ [x]).getD j 0 = if j = s.length then x else s.getD j 0 := by
  simp only [List.getD_eq_getElem?_getD, List.getElem?_append]
  by_cases h : j < s.length
  · rw [if_pos h, if_neg (by omega)]
  · rw [if_neg h]
    by_cases h2 : j = s.length
    · rw [if_pos h2, h2]; simp
    · rw [if_neg h2, List.getElem?_eq_none (by simp; omega), List.getElem?_eq_none (by omega)]
/-- The part of a child. -/
theorem pt_snoc (D : List Int) (L : List (List Int)) (ts : List (Int × Int)) (s : List Int) (m : Nat) (x : Int) : ptT D L ts s m s.length + ((x : Rat) - ctT D L ts s m (m - s.length) s.length) * ((x : Rat) - ctT D L ts s m (m - s.length) s.length) * stq D (m - s.length) = ptT D L ts (s ++ [x]) m (s.length + 1) := by
  show _ = ptT D L ts (s ++ [x]) m s.length + _
  have e1 : ptT D L ts (s ++ [x]) m s.length = ptT D L ts s m s.length := ptT_ext fun j hj => by rw [getD_snoc, if_neg (by omega)]
  have e2 : ctT D L ts (s ++ [x]) m (m - s.length) s.length = ctT D L ts s m (m - s.length) s.length := ctT_ext fun j hj => by rw [getD_snoc, if_neg (by omega)]
  rw [e1, e2, getD_snoc, if_pos rfl]
theorem zl_snoc {s : List Int} {x : Int} {k : Nat} (h : ∀ j, zl (s.getD j 0) ≤ k) (hx : zl x ≤ k) (j : Nat) : zl ((s ++ [x]).getD j 0) ≤ k := by
  rw [getD_snoc]
  split
  · exact hx
  · exact h j

theorem t_kids1 {D : List Int} {L : List (List Int)} {ts : List (Int × Int)} {a b : Int} {n k : Nat} (h : TrS D L ts n k) {s : List Int} {l : Nat} {Z : Nat → Ent0} {zf : Ent0} {K : Nat} (hb : 0 < b) (hs : s.length + 1 ≤ n) (hz : ∀ j, zl (s.getD j 0) ≤ k) (hx : ∀ j, j ≤ K → zl (nth (ctT D L ts s (n - 1) (n - 1 - s.length) s.length) j) ≤ k) (hw : ∀ j, j < K → ptT D L ts (s ++ [nth (ctT D L ts s (n - 1) (n - 1 - s.length) s.length) j]) (n - 1) (s.length + 1) ≤ (a : Rat) / (b : Rat)) (hY : ∀ j, j < K → YOk Tryz.prog l (T.Ch (nth (ctT D L ts s (n - 1) (n - 1 - s.length) s.length) j) k (ptT D L ts (s ++ [nth (ctT D L ts s (n - 1) (n - 1 - s.length) s.length) j]) (n - 1) (s.length + 1)) 15100000000) (Z j) true (Z (j + 1))) (hf : (¬ ptT D L ts (s ++ [nth (ctT D L ts s (n - 1) (n - 1 - s.length) s.length) K]) (n - 1) (s.length + 1) ≤ (a : Rat) / (b : Rat) ∧ zf = Z K) ∨ (ptT D L ts (s ++ [nth (ctT D L ts s (n - 1) (n - 1 - s.length) s.length) K]) (n - 1) (s.length + 1) ≤ (a : Rat) / (b : Rat) ∧ YOk Tryz.prog l (T.Ch (nth (ctT D L ts s (n - 1) (n - 1 - s.length) s.length) K) k (ptT D L ts (s ++ [nth (ctT D L ts s (n - 1) (n - 1 - s.length) s.length) K]) (n - 1) (s.length + 1)) 15100000000) (Z K) false zf)) : Fn Tryz.prog 121 [T.Y l, T.fp (T.Tr D L ts a b k), T.fp (T.l (cZi k) s), T.fp (T.Q (ptT D L ts s (n - 1) s.length) 15100000000)] [(700, Ent.ab (Z 0))] [(700, Ent.ab zf)] [] (T.tup []) := by
  refine fn_ofM Tryz.func121 rfl (by show 4 ≤ 33; decide) fun cx hcx => ?_
  refine tri_sub (sl 0 rfl (sl 1 rfl (sl 2 rfl (sl 3 rfl sn)))) (el 700 rfl en) ?_
  have hn12 := h.twelve
  have hkk := h.hk
  have hlL := h.len
  have hn0 := h.pos
  have hnd : ∀ d, n - 1 - d = n - 1 - d := fun _ => rfl
  refine tri_seq ?_
  refine tri_reg mixed hcx ?_ _ _
  refine bx 10 rfl ?_
  refine ⟨by kernel_rfl, ?_⟩
  refine nx (sl 1 rfl (sl 2 rfl (sl 3 rfl (sl 4 rfl sn)))) (el 700 rfl (el 10 rfl en)) ?_
  refine tri_seq ?_
  refine tri_fzb 4 10 rfl rfl (fun h => Nat.noConfusion h) ?_
  refine tri_as 4 (Z := T.fp (T.Y l)) rfl (fp_st1) ?_
  refine tri_reg mixed hcx ?_ _ _
  refine lf rfl tyTr ?_
  refine lf rfl tyZs ?_
  refine ca rfl (h := t_centre h (by omega)) (hn := ?_)
  refine nw 113 zeQ ?_
  refine st rfl rfl rfl tyQ rfl ?_
  refine ⟨by kernel_rfl, ?_⟩
  refine nx (sl 1 rfl (sl 2 rfl (sl 3 rfl (sl 4 rfl (sl 5 rfl sn))))) (el 700 rfl (el 113 rfl en)) ?_
  refine tri_seq ?_
  refine tri_fzb 5 113 rfl rfl (fun h => Nat.noConfusion h) ?_
  refine tri_as 5 (Z := T.fp (T.Q (ctT D L ts s (n - 1) (n - 1 - s.length) s.length) 600000000)) rfl (fp_st1) ?_
  refine tri_reg mixed hcx ?_ _ _
  refine lf rfl tyQ ?_
  refine cb rfl (h := t_zig) (hn := ?_)
  refine ⟨by kernel_rfl, ?_⟩
  refine nx (sl 1 rfl (sl 2 rfl (sl 3 rfl (sl 4 rfl (sl 5 rfl (sl 12 rfl sn)))))) (el 700 rfl en) ?_
  refine tri_block ?_
  refine tri_range (ι := Nat) (κ := Unit) (f := 164) (Caps := [T.fp (T.V (ctT D L ts s (n - 1) (n - 1 - s.length) s.length) 600000000)]) (R := T.tup []) (g' := [(1, T.fp (T.Tr D L ts a b k)), (2, T.fp (T.l (cZi k) s)), (3, T.fp (T.Q (ptT D L ts s (n - 1) s.length) 15100000000)), (4, T.fp (T.Y l)), (5, T.fp (T.Q (ctT D L ts s (n - 1) (n - 1 - s.length) s.length) 600000000))]) (fun j => [(700, some (Ent.ab (Z j)))]) (fun _ => [(700, some (Ent.ab zf))]) (fun _ => .ret) (fun j X o => (j < K ∧ X = T.Z (nth (ctT D L ts s (n - 1) (n - 1 - s.length) s.length) j) k ∧ o = .inl (j + 1)) ∨ (j = K ∧ X = T.Z (nth (ctT D L ts s (n - 1) (n - 1 - s.length) s.length) j) k ∧ o = .inr ())) (0) (.inr ()) rfl hcx rfl (by intro a w; kernel_rfl) (by decide) (sl 1 rfl (sl 2 rfl (sl 3 rfl (sl 4 rfl (sl 5 rfl sn))))) (el 700 rfl en) ?_ ?_ ?_ ?_
  · intro lw W V hW
    exact t_zig1 (Z := W) (zf := V ()) (by omega) (by omega) hx (fun j hj => hW j _ (.inl (j + 1)) (.inl ⟨hj, rfl, rfl⟩)) (hW K _ (.inr ()) (.inr ⟨rfl, rfl, rfl⟩))
  · rintro j X o (⟨_, rfl, _⟩ | ⟨_, rfl, _⟩) <;> rfl
  · rintro lr dB rr c' hrd hdf hcx' j X o (⟨hj, rfl, rfl⟩ | ⟨hj, rfl, rfl⟩)
    · have hwj := hw j hj
      refine tri_reg mixed hcx' ?_ _ _
      refine nw 310 zeZ ?_
      refine st rfl rfl rfl tyZ rfl ?_
      refine ⟨by kernel_rfl, ?_⟩
      refine nx_begin hrd rfl (sl 1 rfl (sl 2 rfl (sl 3 rfl (sl 4 rfl (sl 5 rfl (sl 6 rfl sn)))))) (el 702 rfl (el 701 rfl (el 700 rfl (el 310 rfl en)))) ?_
      refine tri_block ?_
      refine tri_seq ?_
      refine tri_reg mixed hcx' ?_ _ _
      refine lf rfl tyTr ?_
      refine lf rfl tyQ ?_
      refine lf rfl tyQ ?_
      refine lf rfl tyZs ?_
      refine ln slZs rfl ?_
      refine ld rfl rfl tyZ rfl ?_
      refine cb rfl (h := t_grown h (by omega) (by omega) (by omega) (by omega)) (hn := ?_)
      refine nw 417 zeQ ?_
      refine st rfl rfl rfl tyQ rfl ?_
      refine ⟨by kernel_rfl, ?_⟩
      refine nx (sl 1 rfl (sl 4 rfl (sl 6 rfl (sl 7 rfl sn)))) (el 702 rfl (el 701 rfl (el 700 rfl (el 310 rfl (el 417 rfl en))))) ?_
      refine tri_seq ?_
      refine tri_sub (sl 1 rfl (sl 4 rfl (sl 6 rfl (sl 7 rfl sn)))) (el 702 rfl (el 701 rfl (el 700 rfl (el 310 rfl (ew 417 rfl (box_q (q_qb (by rw [hnd]; exact pt_snoc D L ts s (n - 1) (nth (ctT D L ts s (n - 1) (n - 1 - s.length) s.length) j)) (h.pt' (zl_snoc hz (hx j (by omega))) (m := n - 1) (by omega) (by omega)))) en))))) ?_
      refine tri_reg mixed hcx' ?_ _ _
      refine lf rfl tyTr ?_
      refine ld rfl rfl tyQ rfl ?_
      refine cb rfl (h := t_within hb (by omega) (by omega)) (hn := ?_)
      refine nt rfl _ (show (!decide _) = false from by rw [decide_eq_true hwj]; rfl) ?_
      refine mv rfl ?_
      refine lf rfl tyYc ?_ (hg := gd1)
      refine ld rfl rfl tyZ rfl ?_ (hg := gd1)
      refine ld rfl rfl tyQ rfl ?_ (hg := gd1)
      refine bu stCh rfl ?_ (hg := gd1)
      refine yd (e := 700) rfl rfl rfl (hY j hj) (.refl _) ?_ (hg := gd1)
      refine nt rfl _ rfl ?_ (hg := gd1)
      refine pk rfl rfl ?_
      refine ⟨by kernel_rfl, ?_⟩
      refine nx (sl 32 rfl sn) (el 702 rfl (el 701 rfl (el 700 rfl (el 310 rfl (el 417 rfl en))))) ?_
      refine tri_false rfl rfl ?_
      refine tri_skip ?_
      refine pn_blk ?_
      exact rq_go (el 702 rfl (el 701 rfl (el 700 rfl en)))
    · refine tri_reg mixed hcx' ?_ _ _
      refine nw 310 zeZ ?_
      refine st rfl rfl rfl tyZ rfl ?_
      refine ⟨by kernel_rfl, ?_⟩
      refine nx_begin hrd rfl (sl 1 rfl (sl 2 rfl (sl 3 rfl (sl 4 rfl (sl 5 rfl (sl 6 rfl sn)))))) (el 702 rfl (el 701 rfl (el 700 rfl (el 310 rfl en)))) ?_
      refine tri_block ?_
      refine tri_seq ?_
      refine tri_reg mixed hcx' ?_ _ _
      refine lf rfl tyTr ?_
      refine lf rfl tyQ ?_
      refine lf rfl tyQ ?_
      refine lf rfl tyZs ?_
      refine ln slZs rfl ?_
      refine ld rfl rfl tyZ rfl ?_
      refine cb rfl (h := t_grown h (by omega) (by omega) (by omega) (by omega)) (hn := ?_)
      refine nw 417 zeQ ?_
      refine st rfl rfl rfl tyQ rfl ?_
      refine ⟨by kernel_rfl, ?_⟩
      refine nx (sl 1 rfl (sl 4 rfl (sl 6 rfl (sl 7 rfl sn)))) (el 702 rfl (el 701 rfl (el 700 rfl (el 310 rfl (el 417 rfl en))))) ?_
      refine tri_seq ?_
      rcases hf with ⟨hn, hzf⟩ | ⟨hn, hyf⟩
      · rw [← hj] at hn
        refine tri_sub (sl 1 rfl (sl 4 rfl (sl 6 rfl (sl 7 rfl sn)))) (el 702 rfl (el 701 rfl (el 700 rfl (el 310 rfl (ew 417 rfl (box_q (q_qb (by rw [hnd]; exact pt_snoc D L ts s (n - 1) (nth (ctT D L ts s (n - 1) (n - 1 - s.length) s.length) j)) (h.pt' (zl_snoc hz (hx j (by omega))) (m := n - 1) (by omega) (by omega)))) en))))) ?_
        refine tri_reg mixed hcx' ?_ _ _
        refine lf rfl tyTr ?_
        refine ld rfl rfl tyQ rfl ?_
        refine cb rfl (h := t_within hb (by omega) (by omega)) (hn := ?_)
        refine nt rfl _ (show (!decide _) = true from by rw [decide_eq_false hn]; rfl) ?_
        refine mv rfl ?_
        refine j_off rfl rfl rfl rfl ?_
        refine j_off rfl rfl rfl rfl ?_
        refine j_off rfl rfl rfl rfl ?_
        refine j_off rfl rfl rfl rfl ?_
        refine j_off rfl rfl rfl rfl ?_
        refine j_off rfl rfl rfl rfl ?_
        refine pk rfl rfl ?_
        refine ⟨by kernel_rfl, ?_⟩
        refine nx (sl 32 rfl sn) (el 702 rfl (el 701 rfl (el 700 rfl (el 310 rfl (el 417 rfl en))))) ?_
        refine tri_true rfl rfl ?_
        refine tri_ret ?_
        repeat (first | refine pn_thenr ?_ | refine pn_blkr ?_)
        exact rq_ret (el 702 rfl (el 701 rfl (ew 700 rfl (.of (by rw [hzf, hj])) en)))
      · rw [← hj] at hn hyf
        refine tri_sub (sl 1 rfl (sl 4 rfl (sl 6 rfl (sl 7 rfl sn)))) (el 702 rfl (el 701 rfl (el 700 rfl (el 310 rfl (ew 417 rfl (box_q (q_qb (by rw [hnd]; exact pt_snoc D L ts s (n - 1) (nth (ctT D L ts s (n - 1) (n - 1 - s.length) s.length) j)) (h.pt' (zl_snoc hz (hx j (by omega))) (m := n - 1) (by omega) (by omega)))) en))))) ?_
        refine tri_reg mixed hcx' ?_ _ _
        refine lf rfl tyTr ?_
        refine ld rfl rfl tyQ rfl ?_
        refine cb rfl (h := t_within hb (by omega) (by omega)) (hn := ?_)
        refine nt rfl _ (show (!decide _) = false from by rw [decide_eq_true hn]; rfl) ?_
        refine mv rfl ?_
        refine lf rfl tyYc ?_ (hg := gd1)
        refine ld rfl rfl tyZ rfl ?_ (hg := gd1)
        refine ld rfl rfl tyQ rfl ?_ (hg := gd1)
        refine bu stCh rfl ?_ (hg := gd1)
        refine yd (e := 700) rfl rfl rfl (hyf) (.refl _) ?_ (hg := gd1)
        refine nt rfl _ rfl ?_ (hg := gd1)
        refine pk rfl rfl ?_
        refine ⟨by kernel_rfl, ?_⟩
        refine nx (sl 32 rfl sn) (el 702 rfl (el 701 rfl (el 700 rfl (el 310 rfl (el 417 rfl en))))) ?_
        refine tri_true rfl rfl ?_
        refine tri_ret ?_
        repeat (first | refine pn_thenr ?_ | refine pn_blkr ?_)
        exact rq_ret (el 702 rfl (el 701 rfl (el 700 rfl en)))
  · intro lr dB oo
    refine done_stop ?_
    refine tri_ret ?_
    repeat (first | refine pn_thenr ?_ | refine pn_blkr ?_)
    refine ret_M1 (.inl rfl) rfl rfl ?_
    exact ret0 hcx rfl  (.refl _) (el 700 rfl en)

theorem t_kids {D : List Int} {L : List (List Int)} {ts : List (Int × Int)} {a b : Int} {k : Nat} {s : List Int} {q : Rat} {m : Nat} : Fn Tryz.prog 65 [T.Tr D L ts a b k, T.l (cZi k) s, T.Q q m] [] [] [] (T.fn 121 [T.fp (T.Tr D L ts a b k), T.fp (T.l (cZi k) s), T.fp (T.Q q m)]) := by
  refine fn_of Tryz.func65 rfl (by show 3 ≤ 8; decide) fun cx hcx => ?_
  refine tri_sub (sl 0 rfl (sl 1 rfl (sl 2 rfl sn))) en ?_
  refine tri_seq ?_
  refine tri_reg mixed hcx ?_ _ _
  refine bxs 10 rfl ?_
  refine bx 11 rfl ?_
  refine bxs 12 rfl ?_
  refine asg rfl ?_
  refine ⟨by kernel_rfl, ?_⟩
  refine nx (sl 3 rfl (sl 4 rfl (sl 5 rfl sn))) (el 10 rfl (el 11 rfl (el 12 rfl en))) ?_
  refine tri_seq ?_
  refine tri_fzb 3 10 rfl rfl (fun h => Nat.noConfusion h) ?_
  refine tri_fzb 4 11 rfl rfl (fun h => Nat.noConfusion h) ?_
  refine tri_as 4 (Z := T.fp (T.l (cZi k) s)) rfl (fp_st1) ?_
  refine tri_fzb 5 12 rfl rfl (fun h => Nat.noConfusion h) ?_
  refine tri_reg mixed hcx ?_ _ _
  refine mf rfl ?_
  refine asg rfl ?_
  refine ⟨by kernel_rfl, ?_⟩
  refine nx (sl 6 rfl sn) en ?_
  refine tri_ret ?_
  repeat (first | refine pn_thenr ?_ | refine pn_blkr ?_)
  exact ret1 hcx rfl (rv_tmp rfl) (.refl _) en
end Go.Proofs.YtekghdfbhbhigaaGreat.V
/- The nodes of a search tree below a suffix, in their order. -/
set_option linter.unusedVariables false
set_option maxRecDepth 100000
namespace Go.Proofs.YtekghdfbhbhigaaGreat.V
open Go.RowKit Mt Nml
/-- The first j children with what lies below them. -/
def fl (s : List Int) (x : Nat → Int) (LL : Nat → List (List Int)) : Nat → List (List Int)
  | 0 => []
  | j + 1 => fl s x LL j ++ ((s ++ [x j]) :: LL j)
section
variable (s : List Int) (x : Nat → Int) (LL : Nat → List (List Int))
theorem fl_len (j : Nat) : (fl s x LL (j + 1)).length = (fl s x LL j).length + 1 + (LL j).length := by
  show (fl s x LL j ++ _).length = _
  rw [List.length_append, List.length_cons]; omega
theorem fl_mono {i j : Nat} (h : i ≤ j) : (fl s x LL i).length ≤ (fl s x LL j).length := by
  induction j with
  | zero => rw [show i = 0 by omega]; exact Nat.le_refl _
  | succ j ih =>
    rcases Nat.lt_or_ge i (j + 1) with h1 | h1
    · have := ih (by omega); rw [fl_len]; omega
    · rw [show i = j + 1 by omega]; exact Nat.le_refl _
theorem fl_get {i m : Nat} (h : i < m) (k : Nat) (hk : k < (LL i).length + 1) : (fl s x LL m).getD ((fl s x LL i).length + k) [] = ((s ++ [x i]) :: LL i).getD k [] := by
  induction m with
  | zero => omega
  | succ m ih =>
    show (fl s x LL m ++ ((s ++ [x m]) :: LL m)).getD _ [] = _
    rcases Nat.lt_or_ge i m with h1 | h1
    · have h2 := fl_mono s x LL (show i + 1 ≤ m by omega)
      rw [fl_len] at h2
      rw [← ih h1]
      simp only [List.getD_eq_getElem?_getD]
      rw [List.getElem?_append_left (by omega)]
    · obtain rfl : i = m := by omega
      simp only [List.getD_eq_getElem?_getD]
      rw [List.getElem?_append_right (by omega), Nat.add_sub_cancel_left]
/-- In which child's part a place lies. -/
theorem fl_at {m K : Nat} (h : K ≤ (fl s x LL m).length) : ∃ J, J ≤ m ∧ (fl s x LL J).length ≤ K ∧ (J < m → K < (fl s x LL (J + 1)).length) ∧ (J = m → K = (fl s x LL m).length) := by
  induction m with
  | zero => exact ⟨0, Nat.le_refl _, Nat.zero_le _, fun h => absurd h (Nat.lt_irrefl _), fun _ => by have : (fl s x LL 0).length = 0 := rfl; omega⟩
  | succ m ih =>
    rcases Nat.lt_or_ge K (fl s x LL (m + 1)).length with h1 | h1
    · rcases Nat.lt_or_ge K (fl s x LL m).length with h2 | h2
      · obtain ⟨J, k1, k2, k3, k4⟩ := ih (by omega)
        rcases Nat.lt_or_ge J m with h3 | h3
        · exact ⟨J, by omega, k2, fun _ => k3 h3, fun h => by omega⟩
        · have := k4 (by omega); omega
      · exact ⟨m, by omega, h2, fun _ => h1, fun h => by omega⟩
    · exact ⟨m + 1, Nat.le_refl _, h1, fun h => absurd h (Nat.lt_irrefl _), fun _ => by omega⟩
end
/-- These are the nodes below a suffix of d numbers, in the order of the tree. -/
inductive Bel (D : List Int) (L : List (List Int)) (ts : List (Int × Int)) (n k : Nat) (R : Rat) : List Int → Nat → List (List Int) → Prop
  | leaf (s : List Int) : Bel D L ts n k R s n []
  | node (s : List Int) (d m : Nat) (LL : Nat → List (List Int)) (hd : d < n)
      (hz : ∀ j, j ≤ m → zl (nth (ctT D L ts s (n - 1) (n - 1 - d) d) j) ≤ k)
      (hw : ∀ j, j < m → ptT D L ts (s ++ [nth (ctT D L ts s (n - 1) (n - 1 - d) d) j]) (n - 1) (d + 1) ≤ R)
      (hn : ¬ ptT D L ts (s ++ [nth (ctT D L ts s (n - 1) (n - 1 - d) d) m]) (n - 1) (d + 1) ≤ R)
      (hB : ∀ j, j < m → Bel D L ts n k R (s ++ [nth (ctT D L ts s (n - 1) (n - 1 - d) d) j]) (d + 1) (LL j)) : Bel D L ts n k R s d (fl s (nth (ctT D L ts s (n - 1) (n - 1 - d) d)) LL m)
end Go.Proofs.YtekghdfbhbhigaaGreat.V
/- Search trees: the nodes below a suffix. -/
set_option linter.unusedVariables false
set_option linter.unusedSimpArgs false
set_option maxRecDepth 100000
namespace Go.Proofs.YtekghdfbhbhigaaGreat.V
open Go.RowKit Mt Nml
end Go.Proofs.YtekghdfbhbhigaaGreat.V
/- How many nodes have how many numbers. -/
set_option linter.unusedVariables false
set_option maxRecDepth 100000
namespace Go.Proofs.YtekghdfbhbhigaaGreat.V
open Go.RowKit Mt Nml
theorem Bel.len {D : List Int} {L : List (List Int)} {ts : List (Int × Int)} {n k : Nat} {R : Rat} {s : List Int} {d : Nat} {ns : List (List Int)} (h : Bel D L ts n k R s d ns) : s.length = d → ∀ i, i < ns.length → d < (ns.getD i []).length ∧ (ns.getD i []).length ≤ n := by
  induction h with
  | leaf s => exact fun _ i hi => absurd hi (Nat.not_lt_zero _)
  | node s d m LL hd hz hw hn hB ih =>
    intro hs i hi
    subst hs
    obtain ⟨J, k1, k2, k3, k4⟩ := fl_at s (nth (ctT D L ts s (n - 1) (n - 1 - s.length) s.length)) LL (Nat.le_of_lt hi)
    have hJ : J < m := by
      rcases Nat.lt_or_ge J m with h | h
      · exact h
      · have := k4 (by omega); omega
    have k5 := k3 hJ
    rw [fl_len] at k5
    have h1 := fl_get s (nth (ctT D L ts s (n - 1) (n - 1 - s.length) s.length)) LL hJ (i - (fl s (nth (ctT D L ts s (n - 1) (n - 1 - s.length) s.length)) LL J).length) (by omega)
    rw [show (fl s (nth (ctT D L ts s (n - 1) (n - 1 - s.length) s.length)) LL J).length + (i - (fl s (nth (ctT D L ts s (n - 1) (n - 1 - s.length) s.length)) LL J).length) = i by omega] at h1
    rw [h1]
    rcases Nat.eq_zero_or_pos (i - (fl s (nth (ctT D L ts s (n - 1) (n - 1 - s.length) s.length)) LL J).length) with h0 | h0
    · rw [h0]
      show s.length < (s ++ [_]).length ∧ (s ++ [_]).length ≤ n
      rw [List.length_append]
      exact ⟨Nat.lt_succ_self _, hd⟩
    · obtain ⟨i', hi'⟩ : ∃ i', i - (fl s (nth (ctT D L ts s (n - 1) (n - 1 - s.length) s.length)) LL J).length = i' + 1 := ⟨i - (fl s (nth (ctT D L ts s (n - 1) (n - 1 - s.length) s.length)) LL J).length - 1, by omega⟩
      rw [hi']
      have := ih J hJ (by simp) i' (by omega)
      exact ⟨by have := this.1; show s.length < ((LL J).getD i' []).length; omega, this.2⟩
end Go.Proofs.YtekghdfbhbhigaaGreat.V
/- Search trees: nodes counted. -/
set_option linter.unusedVariables false
set_option linter.unusedSimpArgs false
set_option maxRecDepth 100000
namespace Go.Proofs.YtekghdfbhbhigaaGreat.V
open Go.RowKit Mt Nml
theorem t_counted {D : List Int} {L : List (List Int)} {ts : List (Int × Int)} {a b : Int} {n k : Nat} (h : TrS D L ts n k) {s : List Int} (hb : 0 < b) (ha : 0 ≤ a) {m mo : Nat} (hs : s.length ≤ m) (hsl : s.length ≤ 1048576) (hmo : mo ≤ 65536) : Fn Tryz.prog 63 [T.Tr D L ts a b k, T.l (cZi k) s, T.c (.int .i64 (m : Int)), T.c (.int .i64 (mo : Int))] [] [] [] (T.c (.int .i64 0)) := by
  refine fn_of Tryz.func63 rfl (by show 4 ≤ 23; decide) fun cx hcx => ?_
  refine tri_sub (sl 0 rfl (sl 1 rfl (sl 2 rfl (sl 3 rfl sn)))) en ?_
  refine tri_seq ?_
  refine tri_reg mixed hcx ?_ _ _
  refine bxs 10 rfl ?_
  refine asg rfl ?_
  refine ⟨by kernel_rfl, ?_⟩
  refine nx (sl 1 rfl (sl 2 rfl (sl 3 rfl (sl 4 rfl sn)))) (el 10 rfl en) ?_
  refine tri_seq ?_
  refine tri_seq ?_
  refine tri_reg mixed hcx ?_ _ _
  refine ld rfl rfl tyTr rfl ?_
  refine mv rfl ?_
  refine mv rfl ?_
  refine ca rfl (h := t_fits h hb ha (m := m) (by omega) (by omega)) (hn := ?_)
  refine asg rfl ?_
  refine ⟨by kernel_rfl, ?_⟩
  refine nx (sl 3 rfl (sl 9 rfl sn)) (el 10 rfl en) ?_
  refine tri_seq ?_
  refine tri_reg mixed hcx ?_ _ _
  refine mv rfl ?_
  refine cne rfl rfl (decide_eq_false (by omega)) ?_
  refine ⟨by kernel_rfl, ?_⟩
  refine nx (sl 3 rfl (sl 9 rfl (sl 15 rfl sn))) (el 10 rfl en) ?_
  refine tri_false rfl rfl ?_
  refine tri_skip ?_
  refine nx (sl 3 rfl sn) (el 10 rfl en) ?_
  refine tri_seq ?_
  refine tri_seq ?_
  refine tri_reg mixed hcx ?_ _ _
  refine mv rfl ?_
  refine clt rfl rfl (decide_eq_false (by omega)) ?_
  refine mv rfl ?_
  refine mv rfl ?_ (hg := gd1)
  refine cgt rfl rfl (decide_eq_false (by omega)) ?_ (hg := gd1)
  refine pk rfl rfl ?_
  refine ⟨by kernel_rfl, ?_⟩
  refine nx (sl 22 rfl sn) (el 10 rfl en) ?_
  refine tri_false rfl rfl ?_
  refine tri_skip ?_
  refine nx sn (el 10 rfl en) ?_
  refine tri_seq ?_
  refine tri_reg mixed hcx ?_ _ _
  refine asg rfl ?_
  refine ⟨by kernel_rfl, ?_⟩
  refine nx (sl 8 rfl sn) (el 10 rfl en) ?_
  refine tri_ret ?_
  repeat (first | refine pn_thenr ?_ | refine pn_blkr ?_)
  exact ret1 hcx rfl (rv_tmp rfl) (.refl _) en

end Go.Proofs.YtekghdfbhbhigaaGreat.V
/- Search trees: the call whose answer is known. -/
set_option linter.unusedVariables false
set_option linter.unusedSimpArgs false
set_option maxRecDepth 100000
namespace Go.Proofs.YtekghdfbhbhigaaGreat.V
open Go.RowKit Mt Nml
section
variable {P : Program} {ops : Array Oper} {fin : List OpS → List (Nat × T) → List (Nat × Option Ent) → Prop} {r : List Oper} {H : List OpS} {g : List (Nat × T)} {E : List (Nat × Option Ent)} {o : Oper}
variable {t : Option Nat} {ty : TypeId} {ps : String} {af : Array Edge} {gd : Option (Nat × Bool)} {x y : Operand} {X Y : T} {e off m : Nat} {b : Bool} {l l' : List T} {et : TypeId}
/-- A slice without elements. -/
theorem bs0 {α : Type} {τ : TypeId} {sz bytes : Nat} (c : Cod α) (hT : SlT P et τ sz bytes) (hn : J P ops fin r (OpS.p (T.l c []) :: H) (putg t (T.l c []) g) E) (hg : GuardIs ops g ⟨t, .buildSlice et 0 #[], ty, ps, af, gd⟩ true := by exact gd0) : J P ops fin (⟨t, .buildSlice et 0 #[], ty, ps, af, gd⟩ :: r) H g E :=
  j_val hg (fun ρ β u w F hs he hH => by
    obtain ⟨ht, inf, z, hi, hz0, hz1, hz2, hzc⟩ := hT.info
    have hsf : (sizeOf τ).run P w = .ok sz w := by simp [sizeOf, typeInfo, hi, hz1]
    have hr : (Instr.buildSlice et 0 #[]).run P w = .ok (.slice (some ⟨w.heap.size, 0, none⟩) 0 0) (w.alloc (.cells #[] τ (0, 0))) := by
      unfold Instr.buildSlice
      simp only [Sem.run_bind, run_underlying ht, Result.andThen_ok, hsf]
      rw [if_neg (by omega)]
      simp [newRow, Instr.fill]
      rw [Array.eq_empty_of_size_eq_zero (show (Array.map (fun _ : Nat => (default : Value)) (Array.range 0)).size = 0 by simp)]
    unfold Res
    simp only [execOp, Array.map_empty, Sem.run_bind, hr, Result.andThen_ok, Sem.run_pure]
    exact ⟨u, β, F, fun _ _ => rfl, tr_alloc hs _, Hold.none _ _ _ _, (fun e X k h => by cases h), _, 0, 0, rfl, rfl, Nat.le_refl _, by omega, fun h => absurd h (by omega)⟩) hn
end
theorem tr_flat {A B C D E : T} : (T.st [T.st [A, B], C, T.st [D, E]]).le (T.st [A, B, C, D, E]) := fun β u v ⟨cs, e, v1, r1, _, ⟨cs1, e1, c1⟩, e2, v2, r2, h2, hv2, e3, v3, r3, _, ⟨cs3, e4, c3⟩, e5, e6⟩ => by
  refine ⟨cs, e, ?_⟩
  have h6 : r3 = [] := e6
  subst e1 e4 h6
  have hc : Cells β u ([C] ++ [D, E]) (v2.cells.toList ++ cs3) := Cells.append (l := [C]) ⟨v2, [], h2, hv2, (List.append_nil _).symm, rfl⟩ c3
  have := Cells.append c1 hc
  rw [e2, e3, e5]
  simpa [Value.cells] using this
theorem stTr : StructT Tryz.prog 39 [T.c (.slice none 0 0), T.c (.slice none 0 0), T.c (.slice none 0 0), T.c (.bool false), T.c (.slice none 0 0), T.c (.bool false), T.c (.slice none 0 0)] [(0, 2), (2, 1), (3, 4)] := StructT.mk' (zs := [.slice none 0 0, .slice none 0 0, .slice none 0 0, .bool false, .slice none 0 0, .bool false, .slice none 0 0])
theorem zeTr : Zero Tryz.prog 39 [T.c (.slice none 0 0), T.c (.slice none 0 0), T.c (.slice none 0 0), T.c (.bool false), T.c (.slice none 0 0), T.c (.bool false), T.c (.slice none 0 0)] := zero_of (zs := [.slice none 0 0, .slice none 0 0, .slice none 0 0, .bool false, .slice none 0 0, .bool false, .slice none 0 0]) (z := .agg #[.slice none 0 0, .slice none 0 0, .slice none 0 0, .bool false, .slice none 0 0, .bool false, .slice none 0 0]) (by kernel_rfl)

abbrev D0 : List Int := [1, 1, 1]
abbrev L0 : List (List Int) := [[], [0]]
theorem small_T : TrS D0 L0 [] 2 2 where
  good := ⟨by decide, by decide, by decide, fun i hi => by match i, hi with | 0, _ => decide | 1, _ => decide⟩
  len := rfl
  twelve := by decide
  tl := .inl rfl
  tp := fun i hi => absurd hi (Nat.not_lt_zero _)
  zt := fun i hi => absurd hi (Nat.not_lt_zero _)
  zD := fun j => by
    match j with
    | 0 => exact Nat.le_trans zl_one (by decide)
    | 1 => exact Nat.le_trans zl_one (by decide)
    | 2 => exact Nat.le_trans zl_one (by decide)
    | j + 3 => rw [show D0.getD (j + 3) 0 = 0 from rfl, zl_zero]; decide
  zL := fun i j => by
    have : ((L0.getD j [] : List Int).getD i 0) = 0 := by
      match j, i with
      | 0, _ => rfl
      | 1, 0 => rfl
      | 1, i + 1 => rfl
      | j + 2, _ => rfl
    rw [this, zl_zero]; decide
  hk := by decide
def chk (s : List Int) (d m : Nat) : Bool := (List.range (m + 1)).all fun j => decide (-9 ≤ nth (ctT D0 L0 [] s (2 - 1) (2 - 1 - d) d) j) && decide (nth (ctT D0 L0 [] s (2 - 1) (2 - 1 - d) d) j ≤ 9) && (decide (ptT D0 L0 [] (s ++ [nth (ctT D0 L0 [] s (2 - 1) (2 - 1 - d) d) j]) (2 - 1) (d + 1) ≤ ((1 : Int) : Rat) / ((1 : Int) : Rat)) == decide (j < m))
end Go.Proofs.YtekghdfbhbhigaaGreat.V
/- Search trees: nearer numbers come first. -/
set_option linter.unusedVariables false
set_option linter.unusedSimpArgs false
set_option maxRecDepth 100000
namespace Go.Proofs.YtekghdfbhbhigaaGreat.V
open Go.RowKit Mt Nml
theorem num_neg {q : Rat} : q < 0 ↔ q.num < 0 := rat_neg_iff (M := (q.den : Int)) (den_p' q) (by
  have h := rat_nd q
  have hne : (((q.den : Int)) : Rat) ≠ 0 := rat_ne (by have := den_p' q; omega)
  generalize ((q.num : Int) : Rat) = x at *
  generalize (((q.den : Int)) : Rat) = d at *
  subst h
  grind)
theorem sgq_lt {x y : Rat} (h : x < y) : sg (x - y).num < 0 := by
  have h1 : x - y < 0 := by grind
  have := num_neg.1 h1
  unfold sg sgnc
  rw [if_pos (by omega)]
  decide
theorem sgq_eq {x y : Rat} (h : x = y) : sg (x - y).num = 0 := by
  subst h
  rw [show x - x = 0 by grind]
  decide
theorem r3v_Cmp {x y : Rat} {k l : Nat} (hk : k ≤ 17179869184) (hl : l ≤ 17179869184) : Fn Tryz.prog 31 [T.V x k, T.V y l] [] [] [] (T.c (.int .i64 (sg (x - y).num))) := fn_v [] fun p p1 p2 p3 p4 => fn_v [T.Qi p.1 p.2 k] (Bs := []) fun q q1 q2 q3 q4 => fn_out (r03_CmpG p1 q1 hk hl) (.of (by rw [p2, q2]))

end Go.Proofs.YtekghdfbhbhigaaGreat.V
/- Search trees: the document's numbers about a centre. -/
set_option linter.unusedVariables false
set_option linter.unusedSimpArgs false
set_option maxRecDepth 100000
namespace Go.Proofs.YtekghdfbhbhigaaGreat.V
open Go.RowKit Mt Nml
theorem fdiv_is {a b x : Int} (hb : 0 < b) (h1 : b * x ≤ a) (h2 : a < b * x + b) : Int.fdiv a b = x := by
  rw [Int.fdiv_eq_ediv_of_nonneg _ (by omega)]
  exact ediv_is hb h1 h2
/-- The quotient of sizes, and what is left: the number's sign put back. -/
theorem quo_abs {a b : Int} (hb : 0 < b) : (¬ a < 0 → intv false (a.natAbs / b.natAbs) = Int.fdiv a b ∧ 0 ≤ a - intv false (a.natAbs / b.natAbs) * b) ∧
    (a < 0 → a - intv true (a.natAbs / b.natAbs) * b ≤ 0 ∧ (a - intv true (a.natAbs / b.natAbs) * b = 0 → intv true (a.natAbs / b.natAbs) = Int.fdiv a b) ∧ (¬ a - intv true (a.natAbs / b.natAbs) * b = 0 → intv true (a.natAbs / b.natAbs) - 1 = Int.fdiv a b)) := by
  have hN : 0 < b.natAbs := by omega
  have e := Nat.div_add_mod a.natAbs b.natAbs
  have hm := Nat.mod_lt a.natAbs hN
  have hbe : ((b.natAbs : Nat) : Int) = b := by omega
  have ee : b * ((a.natAbs / b.natAbs : Nat) : Int) + ((a.natAbs % b.natAbs : Nat) : Int) = (a.natAbs : Int) := by
    have := congrArg (fun x : Nat => (x : Int)) e
    simp only [Int.natCast_add, Int.natCast_mul] at this
    rwa [hbe] at this
  unfold intv
  simp only [Bool.false_eq_true, if_false, if_true]
  have hm2 : ((a.natAbs % b.natAbs : Nat) : Int) < b := by omega
  generalize ((a.natAbs / b.natAbs : Nat) : Int) = q at *
  generalize hte : ((a.natAbs % b.natAbs : Nat) : Int) = t at *
  have ht0 : 0 ≤ t := by omega
  have c1 : q * b = b * q := Int.mul_comm _ _
  have c2 : -q * b = -(b * q) := by rw [Int.neg_mul, c1]
  have c3 : b * -q = -(b * q) := Int.mul_neg _ _
  have c4 : b * (-q - 1) = -(b * q) - b := by rw [Int.mul_sub, c3, Int.mul_one]
  rw [c1, c2]
  refine ⟨fun h => ⟨(fdiv_is hb (by omega) (by omega)).symm, by omega⟩, fun h => ⟨by omega, fun h2 => (fdiv_is hb (by rw [c3]; omega) (by rw [c3]; omega)).symm, fun h2 => (fdiv_is hb (by rw [c4]; omega) (by rw [c4]; omega)).symm⟩⟩
theorem sg_nz {r : Int} : (r = 0 → sg r = 0) ∧ (r < 0 → sg r = -1) ∧ (0 < r → sg r = 1) := ⟨fun h => by rw [h]; exact sg_zero, fun h => sg_neg h, fun h => sg_pos h⟩
theorem dig_le {N k : Nat} (h : lim N ≤ k) : (T.l cU (dig N)).le (T.L N k) := l_L (dig_lim _) (dig_val _) h
theorem r01_DivD {M N k l : Nat} (hN0 : 0 < N) (hk : k ≤ 68719476736) (hl : l ≤ 68719476736) (h1 : lim M ≤ k) (h2 : lim N ≤ l) : Fn Tryz.prog 168 [T.l cU (dig M), T.l cU (dig N)] [] [] [] (T.tup [T.l cU (dig (M / N)), T.l cU (dig (M % N)), T.c (.int .i64 0)]) := fn_le (r01_Div hN0 (by omega) (by omega) h2) ⟨dig_le h1, dig_le h2, trivial⟩
theorem r02_madeD {s : Bool} {N k : Nat} (hk : k ≤ 68719476736) (h : lim N ≤ k) : Fn Tryz.prog 110 [T.c (.bool s), T.l cU (dig N)] [] [] [] (T.Z (intv s N) k) := fn_le (r02_made (by omega)) ⟨.refl _, dig_le h, trivial⟩
theorem lim_quo {M N k : Nat} (h : lim M ≤ k) : lim (M / N) ≤ k := Nat.le_trans (lim_mono (Nat.div_le_self _ _)) h

theorem r02_Floor {a b : Int} {k l : Nat} (hb : 0 < b) (hk : k ≤ 68719476736) (hl : l ≤ 68719476736) : Fn Tryz.prog 156 [T.Z a k, T.Z b l] [] [] [] (T.tup [T.Z (Int.fdiv a b) (k + 8), T.Z (a - Int.fdiv a b * b) (3 * k + 3 * l + 16)]) := by
  refine fn_of Tryz.func156 rfl (by show 2 ≤ 50; decide) fun cx hcx => ?_
  refine tri_sub (sl 0 rfl (sl 1 rfl sn)) en ?_
  refine tri_z 0 rfl fun hza => ?_
  refine tri_z 1 rfl fun hzb => ?_
  have hzb2 : zl b ≤ l := hzb
  have hza2 : zl a ≤ k := hza
  have hqa := quo_abs (a := a) hb
  have hsb : sg b = 1 := sg_pos hb
  refine tri_seq ?_
  refine tri_reg mixed hcx ?_ _ _
  refine bxs 10 rfl ?_
  refine bxs 11 rfl ?_
  refine nw 12 zeZ ?_
  refine nw 13 zeZ ?_
  refine ⟨by kernel_rfl, ?_⟩
  refine nx (sl 2 rfl (sl 3 rfl (sl 4 rfl (sl 5 rfl sn)))) (el 10 rfl (el 11 rfl (el 12 rfl (el 13 rfl en)))) ?_
  refine tri_seq ?_
  refine tri_reg mixed hcx ?_ _ _
  refine fa rfl fMag 1 ?_
  refine ld rfl rfl tyLs rfl ?_
  refine fa rfl fMag 1 ?_
  refine ld rfl rfl tyLs rfl ?_
  refine ca rfl (h := r01_DivD (M := a.natAbs) (N := b.natAbs) (k := k) (l := l) (by omega) (by omega) (by omega) hza hzb) (hn := ?_)
  refine mv rfl ?_
  refine ex rfl rfl ?_
  refine ex rfl rfl ?_
  refine ex rfl rfl ?_
  refine asg rfl ?_
  refine asg rfl ?_
  refine asg rfl ?_
  refine ⟨by kernel_rfl, ?_⟩
  refine nx (sl 2 rfl (sl 3 rfl (sl 4 rfl (sl 5 rfl (sl 6 rfl sn))))) (el 10 rfl (el 11 rfl (el 12 rfl (el 13 rfl en)))) ?_
  refine tri_seq ?_
  by_cases ha : a < 0
  · obtain ⟨hr1, hr2, hr3⟩ := hqa.2 ha
    refine tri_reg mixed hcx ?_ _ _
    refine fa rfl fNeg 0 ?_
    refine ld rfl rfl tyB rfl ?_
    refine fa rfl fNeg 0 ?_
    refine ld rfl rfl tyB rfl ?_
    refine neb (q := true) rfl rfl (by rw [decide_eq_true ha, decide_eq_false (by omega)]; rfl) ?_
    refine mv rfl ?_
    refine ca rfl (h := r02_madeD (s := true) (N := (a.natAbs / b.natAbs)) (k := k) (by omega) (lim_quo hza)) (hn := ?_)
    refine nw 217 zeZ ?_
    refine st rfl rfl rfl tyZ rfl ?_
    refine ⟨by kernel_rfl, ?_⟩
    refine nx (sl 2 rfl (sl 3 rfl (sl 4 rfl (sl 5 rfl (sl 9 rfl sn))))) (el 10 rfl (el 11 rfl (el 12 rfl (el 13 rfl (el 217 rfl en))))) ?_
    refine tri_seq ?_
    refine tri_reg mixed hcx ?_ _ _
    refine ld rfl rfl tyZ rfl ?_
    refine ld rfl rfl tyZ rfl ?_
    refine ld rfl rfl tyZ rfl ?_
    refine ca rfl (h := r02_Mul (by omega) (by omega)) (hn := ?_)
    refine ca rfl (h := r02_Sub (by omega) (by omega)) (hn := ?_)
    refine nw 315 zeZ ?_
    refine st rfl rfl rfl tyZ rfl ?_
    refine ⟨by kernel_rfl, ?_⟩
    refine nx (sl 3 rfl (sl 4 rfl (sl 5 rfl (sl 9 rfl (sl 10 rfl sn))))) (el 10 rfl (el 11 rfl (el 12 rfl (el 13 rfl (el 217 rfl (el 315 rfl en)))))) ?_
    refine tri_seq ?_
    refine tri_seq ?_
    by_cases hr : a - intv true (a.natAbs / b.natAbs) * b = 0
    · have hsr := sg_nz.1 hr
      refine tri_reg mixed hcx ?_ _ _
      refine ld rfl rfl tyZ rfl ?_
      refine ca rfl (h := r02_Sign (by omega)) (hn := ?_)
      refine cne rfl rfl (decide_eq_false (by omega)) ?_
      refine mv rfl ?_
      refine j_off rfl rfl rfl rfl ?_
      refine j_off rfl rfl rfl rfl ?_
      refine j_off rfl rfl rfl rfl ?_
      refine j_off rfl rfl rfl rfl ?_
      refine j_off rfl rfl rfl rfl ?_
      refine pk rfl rfl ?_
      refine ⟨by kernel_rfl, ?_⟩
      refine nx (sl 3 rfl (sl 4 rfl (sl 5 rfl (sl 9 rfl (sl 10 rfl (sl 41 rfl sn)))))) (el 10 rfl (el 11 rfl (el 12 rfl (el 13 rfl (el 217 rfl (el 315 rfl en)))))) ?_
      refine tri_false rfl rfl ?_
      refine tri_skip ?_
      refine nx (sl 4 rfl (sl 5 rfl (sl 9 rfl (sl 10 rfl sn)))) (el 10 rfl (el 11 rfl (el 12 rfl (el 13 rfl (el 217 rfl (el 315 rfl en)))))) ?_
      refine tri_seq ?_
      refine tri_reg mixed hcx ?_ _ _
      refine ld rfl rfl tyZ rfl ?_
      refine ld rfl rfl tyZ rfl ?_
      refine st rfl rfl rfl tyZ rfl ?_
      refine st rfl rfl rfl tyZ rfl ?_
      refine ⟨by kernel_rfl, ?_⟩
      refine nx (sl 4 rfl (sl 5 rfl sn)) (el 10 rfl (el 11 rfl (el 12 rfl (el 13 rfl (el 217 rfl (el 315 rfl en)))))) ?_
      refine tri_ret ?_
      repeat (first | refine pn_thenr ?_ | refine pn_blkr ?_)
      exact ret2 hcx rfl (rv_cell (c' := cx) (n := 0) rfl rfl tyZ rfl) (rv_cell (c' := cx) (n := 0) rfl rfl tyZ rfl) (tup_le ⟨z_eqz (hr2 hr) (by omega), z_eqz (by rw [← hr2 hr]) (by omega), trivial⟩) en
    · have hsr := (sg_nz (r := a - intv true (a.natAbs / b.natAbs) * b)).2.1 (by omega)
      refine tri_reg mixed hcx ?_ _ _
      refine ld rfl rfl tyZ rfl ?_
      refine ca rfl (h := r02_Sign (by omega)) (hn := ?_)
      refine cne rfl rfl (decide_eq_true (by omega)) ?_
      refine mv rfl ?_
      refine ld rfl rfl tyZ rfl ?_ (hg := gd1)
      refine ca rfl (h := r02_Sign (by omega)) (hn := ?_) (hg := gd1)
      refine ld rfl rfl tyZ rfl ?_ (hg := gd1)
      refine ca rfl (h := r02_Sign (by omega)) (hn := ?_) (hg := gd1)
      refine cne rfl rfl (decide_eq_true (by omega)) ?_ (hg := gd1)
      refine pk rfl rfl ?_
      refine ⟨by kernel_rfl, ?_⟩
      refine nx (sl 3 rfl (sl 4 rfl (sl 5 rfl (sl 9 rfl (sl 10 rfl (sl 41 rfl sn)))))) (el 10 rfl (el 11 rfl (el 12 rfl (el 13 rfl (el 217 rfl (el 315 rfl en)))))) ?_
      refine tri_true rfl rfl ?_
      refine tri_seq ?_
      refine tri_reg mixed hcx ?_ _ _
      refine ld rfl rfl tyZ rfl ?_
      refine ca rfl (h := r02_Of (by omega) (by omega)) (hn := ?_)
      refine ca rfl (h := r02_Sub (by omega) (by omega)) (hn := ?_)
      refine st rfl rfl rfl tyZ rfl ?_
      refine ⟨by kernel_rfl, ?_⟩
      refine nx (sl 3 rfl (sl 4 rfl (sl 5 rfl (sl 9 rfl (sl 10 rfl sn))))) (el 10 rfl (el 11 rfl (el 12 rfl (el 13 rfl (el 217 rfl (el 315 rfl en)))))) ?_
      refine tri_reg mixed hcx ?_ _ _
      refine ld rfl rfl tyZ rfl ?_
      refine ld rfl rfl tyZ rfl ?_
      refine ca rfl (h := r02_Add (by omega) (by omega)) (hn := ?_)
      refine st rfl rfl rfl tyZ rfl ?_
      refine ⟨by kernel_rfl, ?_⟩
      refine nx (sl 4 rfl (sl 5 rfl (sl 9 rfl (sl 10 rfl sn)))) (el 10 rfl (el 11 rfl (el 12 rfl (el 13 rfl (el 217 rfl (el 315 rfl en)))))) ?_
      refine tri_seq ?_
      refine tri_reg mixed hcx ?_ _ _
      refine ld rfl rfl tyZ rfl ?_
      refine ld rfl rfl tyZ rfl ?_
      refine st rfl rfl rfl tyZ rfl ?_
      refine st rfl rfl rfl tyZ rfl ?_
      refine ⟨by kernel_rfl, ?_⟩
      refine nx (sl 4 rfl (sl 5 rfl sn)) (el 10 rfl (el 11 rfl (el 12 rfl (el 13 rfl (el 217 rfl (el 315 rfl en)))))) ?_
      refine tri_ret ?_
      repeat (first | refine pn_thenr ?_ | refine pn_blkr ?_)
      exact ret2 hcx rfl (rv_cell (c' := cx) (n := 0) rfl rfl tyZ rfl) (rv_cell (c' := cx) (n := 0) rfl rfl tyZ rfl) (tup_le ⟨z_eqz (hr3 hr) (by omega), z_eqz (by rw [← hr3 hr, Int.sub_mul]; omega) (by omega), trivial⟩) en
  · obtain ⟨hr1, hr2⟩ := hqa.1 ha
    refine tri_reg mixed hcx ?_ _ _
    refine fa rfl fNeg 0 ?_
    refine ld rfl rfl tyB rfl ?_
    refine fa rfl fNeg 0 ?_
    refine ld rfl rfl tyB rfl ?_
    refine neb (q := false) rfl rfl (by rw [decide_eq_false ha, decide_eq_false (by omega)]; rfl) ?_
    refine mv rfl ?_
    refine ca rfl (h := r02_madeD (s := false) (N := (a.natAbs / b.natAbs)) (k := k) (by omega) (lim_quo hza)) (hn := ?_)
    refine nw 217 zeZ ?_
    refine st rfl rfl rfl tyZ rfl ?_
    refine ⟨by kernel_rfl, ?_⟩
    refine nx (sl 2 rfl (sl 3 rfl (sl 4 rfl (sl 5 rfl (sl 9 rfl sn))))) (el 10 rfl (el 11 rfl (el 12 rfl (el 13 rfl (el 217 rfl en))))) ?_
    refine tri_seq ?_
    refine tri_reg mixed hcx ?_ _ _
    refine ld rfl rfl tyZ rfl ?_
    refine ld rfl rfl tyZ rfl ?_
    refine ld rfl rfl tyZ rfl ?_
    refine ca rfl (h := r02_Mul (by omega) (by omega)) (hn := ?_)
    refine ca rfl (h := r02_Sub (by omega) (by omega)) (hn := ?_)
    refine nw 315 zeZ ?_
    refine st rfl rfl rfl tyZ rfl ?_
    refine ⟨by kernel_rfl, ?_⟩
    refine nx (sl 3 rfl (sl 4 rfl (sl 5 rfl (sl 9 rfl (sl 10 rfl sn))))) (el 10 rfl (el 11 rfl (el 12 rfl (el 13 rfl (el 217 rfl (el 315 rfl en)))))) ?_
    refine tri_seq ?_
    refine tri_seq ?_
    by_cases hr : a - intv false (a.natAbs / b.natAbs) * b = 0
    · have hsr := sg_nz.1 hr
      refine tri_reg mixed hcx ?_ _ _
      refine ld rfl rfl tyZ rfl ?_
      refine ca rfl (h := r02_Sign (by omega)) (hn := ?_)
      refine cne rfl rfl (decide_eq_false (by omega)) ?_
      refine mv rfl ?_
      refine j_off rfl rfl rfl rfl ?_
      refine j_off rfl rfl rfl rfl ?_
      refine j_off rfl rfl rfl rfl ?_
      refine j_off rfl rfl rfl rfl ?_
      refine j_off rfl rfl rfl rfl ?_
      refine pk rfl rfl ?_
      refine ⟨by kernel_rfl, ?_⟩
      refine nx (sl 3 rfl (sl 4 rfl (sl 5 rfl (sl 9 rfl (sl 10 rfl (sl 41 rfl sn)))))) (el 10 rfl (el 11 rfl (el 12 rfl (el 13 rfl (el 217 rfl (el 315 rfl en)))))) ?_
      refine tri_false rfl rfl ?_
      refine tri_skip ?_
      refine nx (sl 4 rfl (sl 5 rfl (sl 9 rfl (sl 10 rfl sn)))) (el 10 rfl (el 11 rfl (el 12 rfl (el 13 rfl (el 217 rfl (el 315 rfl en)))))) ?_
      refine tri_seq ?_
      refine tri_reg mixed hcx ?_ _ _
      refine ld rfl rfl tyZ rfl ?_
      refine ld rfl rfl tyZ rfl ?_
      refine st rfl rfl rfl tyZ rfl ?_
      refine st rfl rfl rfl tyZ rfl ?_
      refine ⟨by kernel_rfl, ?_⟩
      refine nx (sl 4 rfl (sl 5 rfl sn)) (el 10 rfl (el 11 rfl (el 12 rfl (el 13 rfl (el 217 rfl (el 315 rfl en)))))) ?_
      refine tri_ret ?_
      repeat (first | refine pn_thenr ?_ | refine pn_blkr ?_)
      exact ret2 hcx rfl (rv_cell (c' := cx) (n := 0) rfl rfl tyZ rfl) (rv_cell (c' := cx) (n := 0) rfl rfl tyZ rfl) (tup_le ⟨z_eqz (hr1) (by omega), z_eqz (by rw [← hr1]) (by omega), trivial⟩) en
    · have hsr := (sg_nz (r := a - intv false (a.natAbs / b.natAbs) * b)).2.2 (by omega)
      refine tri_reg mixed hcx ?_ _ _
      refine ld rfl rfl tyZ rfl ?_
      refine ca rfl (h := r02_Sign (by omega)) (hn := ?_)
      refine cne rfl rfl (decide_eq_true (by omega)) ?_
      refine mv rfl ?_
      refine ld rfl rfl tyZ rfl ?_ (hg := gd1)
      refine ca rfl (h := r02_Sign (by omega)) (hn := ?_) (hg := gd1)
      refine ld rfl rfl tyZ rfl ?_ (hg := gd1)
      refine ca rfl (h := r02_Sign (by omega)) (hn := ?_) (hg := gd1)
      refine cne rfl rfl (decide_eq_false (by omega)) ?_ (hg := gd1)
      refine pk rfl rfl ?_
      refine ⟨by kernel_rfl, ?_⟩
      refine nx (sl 3 rfl (sl 4 rfl (sl 5 rfl (sl 9 rfl (sl 10 rfl (sl 41 rfl sn)))))) (el 10 rfl (el 11 rfl (el 12 rfl (el 13 rfl (el 217 rfl (el 315 rfl en)))))) ?_
      refine tri_false rfl rfl ?_
      refine tri_skip ?_
      refine nx (sl 4 rfl (sl 5 rfl (sl 9 rfl (sl 10 rfl sn)))) (el 10 rfl (el 11 rfl (el 12 rfl (el 13 rfl (el 217 rfl (el 315 rfl en)))))) ?_
      refine tri_seq ?_
      refine tri_reg mixed hcx ?_ _ _
      refine ld rfl rfl tyZ rfl ?_
      refine ld rfl rfl tyZ rfl ?_
      refine st rfl rfl rfl tyZ rfl ?_
      refine st rfl rfl rfl tyZ rfl ?_
      refine ⟨by kernel_rfl, ?_⟩
      refine nx (sl 4 rfl (sl 5 rfl sn)) (el 10 rfl (el 11 rfl (el 12 rfl (el 13 rfl (el 217 rfl (el 315 rfl en)))))) ?_
      refine tri_ret ?_
      repeat (first | refine pn_thenr ?_ | refine pn_blkr ?_)
      exact ret2 hcx rfl (rv_cell (c' := cx) (n := 0) rfl rfl tyZ rfl) (rv_cell (c' := cx) (n := 0) rfl rfl tyZ rfl) (tup_le ⟨z_eqz (hr1) (by omega), z_eqz (by rw [← hr1]) (by omega), trivial⟩) en

theorem r03_Floor {q : Rat} {k : Nat} (hk : k ≤ 68719476736) : Fn Tryz.prog 108 [T.Q q k] [] [] [] (T.Z (flo q) (k + 8)) := by
  refine fn_of Tryz.func108 rfl (by show 1 ≤ 14; decide) fun cx hcx => ?_
  refine tri_sub (sl 0 rfl sn) en ?_
  have hdn := den_p' q
  refine tri_seq ?_
  refine tri_reg mixed hcx ?_ _ _
  refine bxs 10 rfl ?_
  refine nw 11 zeZ ?_
  refine ⟨by kernel_rfl, ?_⟩
  refine nx (sl 1 rfl (sl 2 rfl sn)) (el 10 rfl (el 11 rfl en)) ?_
  refine tri_seq ?_
  refine tri_reg mixed hcx ?_ _ _
  refine fa rfl fNum 0 ?_
  refine ld rfl rfl tyZ rfl ?_
  refine fa rfl fDen 2 ?_
  refine ld rfl rfl tyZ rfl ?_
  refine ca rfl (h := r02_Floor (by omega) (by omega) (by omega)) (hn := ?_)
  refine mv rfl ?_
  refine ex rfl rfl ?_
  refine ex rfl rfl ?_
  refine nw 118 zeZ ?_
  refine nw 119 zeZ ?_
  refine st rfl rfl rfl tyZ rfl ?_
  refine st rfl rfl rfl tyZ rfl ?_
  refine ⟨by kernel_rfl, ?_⟩
  refine nx (sl 2 rfl (sl 3 rfl sn)) (el 10 rfl (el 11 rfl (el 118 rfl (el 119 rfl en)))) ?_
  refine tri_seq ?_
  refine tri_reg mixed hcx ?_ _ _
  refine ld rfl rfl tyZ rfl ?_
  refine st rfl rfl rfl tyZ rfl ?_
  refine ⟨by kernel_rfl, ?_⟩
  refine nx (sl 2 rfl sn) (el 10 rfl (el 11 rfl (el 118 rfl (el 119 rfl en)))) ?_
  refine tri_ret ?_
  repeat (first | refine pn_thenr ?_ | refine pn_blkr ?_)
  exact ret1 hcx rfl (rv_cell (c' := cx) (n := 0) rfl rfl tyZ rfl) (.refl _) en

theorem half_le : (T.st [T.Z 1 2, T.Z 2 2]).le (T.Q (1 / 2) 2) := st_le ⟨z_eqz (by decide +kernel) (Nat.le_refl _), z_eqz (by decide +kernel) (Nat.le_refl _), trivial⟩

theorem r03_Half  : Fn Tryz.prog 151 [] [] [] [] (T.Q (1 / 2) 2) := by
  refine fn_of Tryz.func151 rfl (by show 0 ≤ 4; decide) fun cx hcx => ?_
  refine tri_sub sn en ?_
  refine tri_seq ?_
  refine tri_reg mixed hcx ?_ _ _
  refine nw 10 zeQ ?_
  refine ⟨by kernel_rfl, ?_⟩
  refine nx (sl 0 rfl sn) (el 10 rfl en) ?_
  refine tri_seq ?_
  refine tri_reg mixed hcx ?_ _ _
  refine ca rfl (h := r03_one) (hn := ?_)
  refine ca rfl (h := r02_Of (by omega) (by omega)) (hn := ?_)
  refine bu stQ rfl ?_
  refine st rfl rfl rfl tyQ rfl ?_
  refine ⟨by kernel_rfl, ?_⟩
  refine nx (sl 0 rfl sn) (el 10 rfl en) ?_
  refine tri_ret ?_
  repeat (first | refine pn_thenr ?_ | refine pn_blkr ?_)
  exact ret1 hcx rfl (rv_cell (c' := cx) (n := 0) rfl rfl tyQ rfl) half_le en

theorem r3v_Near {c : Rat} {k : Nat} (hk : k ≤ 1073741824) : Fn Tryz.prog 102 [T.V c k] [] [] [] (T.Z (nea c) (k + 64)) := by
  refine fn_of Tryz.func102 rfl (by show 1 ≤ 7; decide) fun cx hcx => ?_
  refine tri_sub (sl 0 rfl sn) en ?_
  refine tri_seq ?_
  refine tri_reg mixed hcx ?_ _ _
  refine bx 10 rfl ?_
  refine nw 11 zeZ ?_
  refine ⟨by kernel_rfl, ?_⟩
  refine nx (sl 1 rfl (sl 2 rfl sn)) (el 10 rfl (el 11 rfl en)) ?_
  refine tri_seq ?_
  refine tri_reg mixed hcx ?_ _ _
  refine ld rfl rfl tyQ rfl ?_
  refine ca rfl (h := r03_Half) (hn := ?_)
  refine cb rfl (h := r3v_Add (by omega) (by omega)) (hn := ?_)
  refine ca rfl (h := r03_Floor (by omega)) (hn := ?_)
  refine st rfl rfl rfl tyZ rfl ?_
  refine ⟨by kernel_rfl, ?_⟩
  refine nx (sl 2 rfl sn) (el 10 rfl (el 11 rfl en)) ?_
  refine tri_ret ?_
  repeat (first | refine pn_thenr ?_ | refine pn_blkr ?_)
  exact ret1 hcx rfl (rv_cell (c' := cx) (n := 0) rfl rfl tyZ rfl) (z_eqz rfl (by omega)) en

theorem sgq_gt {x y : Rat} (h : y < x) : 0 < sg (x - y).num := by
  have h1 : ¬ x - y < 0 := by grind
  have h2 : x - y ≠ 0 := by grind
  have h3 : ¬ (x - y).num < 0 := fun h => h1 (num_neg.2 h)
  have h4 : (x - y).num ≠ 0 := fun h => h2 (Rat.num_eq_zero.1 h)
  rw [sg_pos (by omega)]
  decide
theorem three (x y : Rat) : x < y ∨ x = y ∨ y < x := by grind

theorem r11_Nth {a b : Int} {n k : Nat} (hb : 0 < b) (hk : k ≤ 1000000000) (hn : n ≤ 1073741824) : Fn Tryz.prog 72 [T.Qi a b k, T.c (.int .i64 (n : Int))] [] [] [] (T.Z (nth ((a : Rat) / (b : Rat)) n) (k + 128)) := by
  refine fn_of Tryz.func72 rfl (by show 2 ≤ 34; decide) fun cx hcx => ?_
  refine tri_sub (sl 0 rfl (sl 1 rfl sn)) en ?_
  have hnc := nth_cases ((a : Rat) / (b : Rat)) n
  refine tri_seq ?_
  refine tri_reg mixed hcx ?_ _ _
  refine bxs 10 rfl ?_
  refine nw 11 zeZ ?_
  refine ⟨by kernel_rfl, ?_⟩
  refine nx (sl 1 rfl (sl 2 rfl (sl 4 rfl sn))) (el 10 rfl (el 11 rfl en)) ?_
  refine tri_seq ?_
  refine tri_reg mixed hcx ?_ _ _
  refine ld rfl rfl tyQ rfl ?_
  refine cb rfl (h := r3v_Near (by omega)) (hn := ?_)
  refine nw 112 zeZ ?_
  refine st rfl rfl rfl tyZ rfl ?_
  refine ⟨by kernel_rfl, ?_⟩
  refine nx (sl 1 rfl (sl 2 rfl (sl 4 rfl (sl 5 rfl sn)))) (el 10 rfl (el 11 rfl (el 112 rfl en))) ?_
  refine tri_seq ?_
  rcases three (((nea ((a : Rat) / (b : Rat)) : Int) : Rat)) ((a : Rat) / (b : Rat)) with hd | hd | hd
  · have hs1 := sgq_lt hd
    have hle : (((nea ((a : Rat) / (b : Rat)) : Int) : Rat)) ≤ ((a : Rat) / (b : Rat)) := Rat.le_of_lt hd
    refine tri_reg mixed hcx ?_ _ _
    refine ld rfl rfl tyZ rfl ?_
    refine ca rfl (h := r03_Of (by omega)) (hn := ?_)
    refine ld rfl rfl tyQ rfl ?_
    refine cb rfl (h := r3v_Cmp (by omega) (by omega)) (hn := ?_)
    refine clt rfl rfl (decide_eq_true (by omega)) ?_
    refine asg rfl ?_
    refine ⟨by kernel_rfl, ?_⟩
    refine nx (sl 1 rfl (sl 2 rfl (sl 4 rfl (sl 5 rfl (sl 6 rfl sn))))) (el 10 rfl (el 11 rfl (el 112 rfl en))) ?_
    refine tri_seq ?_
    refine tri_reg mixed hcx ?_ _ _
    refine mv rfl ?_
    refine ad (((n + 1 : Nat) : Int)) rfl rfl rfl (by omega) ?_
    refine qo ((((n + 1) / 2 : Nat) : Int)) rfl rfl rfl (by omega) ?_
    refine asg rfl ?_
    refine ⟨by kernel_rfl, ?_⟩
    refine nx (sl 1 rfl (sl 2 rfl (sl 4 rfl (sl 5 rfl (sl 6 rfl (sl 7 rfl sn)))))) (el 10 rfl (el 11 rfl (el 112 rfl en))) ?_
    refine tri_seq ?_
    refine tri_seq ?_
    refine tri_reg mixed hcx ?_ _ _
    refine ld rfl rfl tyZ rfl ?_
    refine ca rfl (h := r03_Of (by omega)) (hn := ?_)
    refine ld rfl rfl tyQ rfl ?_
    refine cb rfl (h := r3v_Cmp (by omega) (by omega)) (hn := ?_)
    refine ceq rfl rfl (decide_eq_false (by omega)) ?_
    refine ⟨by kernel_rfl, ?_⟩
    refine nx (sl 1 rfl (sl 4 rfl (sl 5 rfl (sl 6 rfl (sl 7 rfl (sl 22 rfl sn)))))) (el 10 rfl (el 11 rfl (el 112 rfl en))) ?_
    refine tri_false rfl rfl ?_
    refine tri_skip ?_
    refine nx (sl 1 rfl (sl 4 rfl (sl 5 rfl (sl 6 rfl (sl 7 rfl sn))))) (el 10 rfl (el 11 rfl (el 112 rfl en))) ?_
    refine tri_seq ?_
    refine tri_seq ?_
    by_cases h2 : n % 2 = 1
    · refine tri_reg mixed hcx ?_ _ _
      refine mv rfl ?_
      refine re (((n % 2 : Nat) : Int)) rfl rfl (by omega) ?_
      refine ceq rfl rfl (decide_eq_true (by omega)) ?_
      refine mv rfl ?_
      refine neb rfl rfl rfl ?_
      refine ⟨by kernel_rfl, ?_⟩
      refine nx (sl 4 rfl (sl 5 rfl (sl 7 rfl (sl 27 rfl sn)))) (el 10 rfl (el 11 rfl (el 112 rfl en))) ?_
      refine tri_false rfl rfl ?_
      refine tri_skip ?_
      refine nx (sl 4 rfl (sl 5 rfl (sl 7 rfl sn))) (el 10 rfl (el 11 rfl (el 112 rfl en))) ?_
      refine tri_seq ?_
      refine tri_reg mixed hcx ?_ _ _
      refine ld rfl rfl tyZ rfl ?_
      refine mv rfl ?_
      refine ca rfl (h := r02_Of (by omega) (by omega)) (hn := ?_)
      refine ca rfl (h := r02_Add (by omega) (by omega)) (hn := ?_)
      refine st rfl rfl rfl tyZ rfl ?_
      refine ⟨by kernel_rfl, ?_⟩
      refine nx (sl 4 rfl sn) (el 10 rfl (el 11 rfl (el 112 rfl en))) ?_
      refine tri_ret ?_
      repeat (first | refine pn_thenr ?_ | refine pn_blkr ?_)
      exact ret1 hcx rfl (rv_cell (c' := cx) (n := 0) rfl rfl tyZ rfl) (z_eqz (hnc.1 hle h2).symm (by omega)) en
    · refine tri_reg mixed hcx ?_ _ _
      refine mv rfl ?_
      refine re (((n % 2 : Nat) : Int)) rfl rfl (by omega) ?_
      refine ceq rfl rfl (decide_eq_false (by omega)) ?_
      refine mv rfl ?_
      refine neb rfl rfl rfl ?_
      refine ⟨by kernel_rfl, ?_⟩
      refine nx (sl 4 rfl (sl 5 rfl (sl 7 rfl (sl 27 rfl sn)))) (el 10 rfl (el 11 rfl (el 112 rfl en))) ?_
      refine tri_true rfl rfl ?_
      refine tri_reg mixed hcx ?_ _ _
      refine mv rfl ?_
      refine ng ((-(((n + 1) / 2 : Nat) : Int))) rfl rfl (by omega) ?_
      refine asg rfl ?_
      refine ⟨by kernel_rfl, ?_⟩
      refine nx (sl 4 rfl (sl 5 rfl (sl 7 rfl sn))) (el 10 rfl (el 11 rfl (el 112 rfl en))) ?_
      refine tri_seq ?_
      refine tri_reg mixed hcx ?_ _ _
      refine ld rfl rfl tyZ rfl ?_
      refine mv rfl ?_
      refine ca rfl (h := r02_Of (by omega) (by omega)) (hn := ?_)
      refine ca rfl (h := r02_Add (by omega) (by omega)) (hn := ?_)
      refine st rfl rfl rfl tyZ rfl ?_
      refine ⟨by kernel_rfl, ?_⟩
      refine nx (sl 4 rfl sn) (el 10 rfl (el 11 rfl (el 112 rfl en))) ?_
      refine tri_ret ?_
      repeat (first | refine pn_thenr ?_ | refine pn_blkr ?_)
      exact ret1 hcx rfl (rv_cell (c' := cx) (n := 0) rfl rfl tyZ rfl) (z_eqz (hnc.2.1 hle h2).symm (by omega)) en
  · have hs1 := sgq_eq hd
    have hle : (((nea ((a : Rat) / (b : Rat)) : Int) : Rat)) ≤ ((a : Rat) / (b : Rat)) := by rw [hd]; exact Rat.le_refl
    refine tri_reg mixed hcx ?_ _ _
    refine ld rfl rfl tyZ rfl ?_
    refine ca rfl (h := r03_Of (by omega)) (hn := ?_)
    refine ld rfl rfl tyQ rfl ?_
    refine cb rfl (h := r3v_Cmp (by omega) (by omega)) (hn := ?_)
    refine clt rfl rfl (decide_eq_false (by omega)) ?_
    refine asg rfl ?_
    refine ⟨by kernel_rfl, ?_⟩
    refine nx (sl 1 rfl (sl 2 rfl (sl 4 rfl (sl 5 rfl (sl 6 rfl sn))))) (el 10 rfl (el 11 rfl (el 112 rfl en))) ?_
    refine tri_seq ?_
    refine tri_reg mixed hcx ?_ _ _
    refine mv rfl ?_
    refine ad (((n + 1 : Nat) : Int)) rfl rfl rfl (by omega) ?_
    refine qo ((((n + 1) / 2 : Nat) : Int)) rfl rfl rfl (by omega) ?_
    refine asg rfl ?_
    refine ⟨by kernel_rfl, ?_⟩
    refine nx (sl 1 rfl (sl 2 rfl (sl 4 rfl (sl 5 rfl (sl 6 rfl (sl 7 rfl sn)))))) (el 10 rfl (el 11 rfl (el 112 rfl en))) ?_
    refine tri_seq ?_
    refine tri_seq ?_
    refine tri_reg mixed hcx ?_ _ _
    refine ld rfl rfl tyZ rfl ?_
    refine ca rfl (h := r03_Of (by omega)) (hn := ?_)
    refine ld rfl rfl tyQ rfl ?_
    refine cb rfl (h := r3v_Cmp (by omega) (by omega)) (hn := ?_)
    refine ceq rfl rfl (decide_eq_true (by omega)) ?_
    refine ⟨by kernel_rfl, ?_⟩
    refine nx (sl 1 rfl (sl 4 rfl (sl 5 rfl (sl 6 rfl (sl 7 rfl (sl 22 rfl sn)))))) (el 10 rfl (el 11 rfl (el 112 rfl en))) ?_
    refine tri_true rfl rfl ?_
    refine tri_reg mixed hcx ?_ _ _
    refine asg rfl ?_
    refine ⟨by kernel_rfl, ?_⟩
    refine nx (sl 1 rfl (sl 4 rfl (sl 5 rfl (sl 6 rfl (sl 7 rfl sn))))) (el 10 rfl (el 11 rfl (el 112 rfl en))) ?_
    refine tri_seq ?_
    refine tri_seq ?_
    by_cases h2 : n % 2 = 1
    · refine tri_reg mixed hcx ?_ _ _
      refine mv rfl ?_
      refine re (((n % 2 : Nat) : Int)) rfl rfl (by omega) ?_
      refine ceq rfl rfl (decide_eq_true (by omega)) ?_
      refine mv rfl ?_
      refine neb rfl rfl rfl ?_
      refine ⟨by kernel_rfl, ?_⟩
      refine nx (sl 4 rfl (sl 5 rfl (sl 7 rfl (sl 27 rfl sn)))) (el 10 rfl (el 11 rfl (el 112 rfl en))) ?_
      refine tri_false rfl rfl ?_
      refine tri_skip ?_
      refine nx (sl 4 rfl (sl 5 rfl (sl 7 rfl sn))) (el 10 rfl (el 11 rfl (el 112 rfl en))) ?_
      refine tri_seq ?_
      refine tri_reg mixed hcx ?_ _ _
      refine ld rfl rfl tyZ rfl ?_
      refine mv rfl ?_
      refine ca rfl (h := r02_Of (by omega) (by omega)) (hn := ?_)
      refine ca rfl (h := r02_Add (by omega) (by omega)) (hn := ?_)
      refine st rfl rfl rfl tyZ rfl ?_
      refine ⟨by kernel_rfl, ?_⟩
      refine nx (sl 4 rfl sn) (el 10 rfl (el 11 rfl (el 112 rfl en))) ?_
      refine tri_ret ?_
      repeat (first | refine pn_thenr ?_ | refine pn_blkr ?_)
      exact ret1 hcx rfl (rv_cell (c' := cx) (n := 0) rfl rfl tyZ rfl) (z_eqz (hnc.1 hle h2).symm (by omega)) en
    · refine tri_reg mixed hcx ?_ _ _
      refine mv rfl ?_
      refine re (((n % 2 : Nat) : Int)) rfl rfl (by omega) ?_
      refine ceq rfl rfl (decide_eq_false (by omega)) ?_
      refine mv rfl ?_
      refine neb rfl rfl rfl ?_
      refine ⟨by kernel_rfl, ?_⟩
      refine nx (sl 4 rfl (sl 5 rfl (sl 7 rfl (sl 27 rfl sn)))) (el 10 rfl (el 11 rfl (el 112 rfl en))) ?_
      refine tri_true rfl rfl ?_
      refine tri_reg mixed hcx ?_ _ _
      refine mv rfl ?_
      refine ng ((-(((n + 1) / 2 : Nat) : Int))) rfl rfl (by omega) ?_
      refine asg rfl ?_
      refine ⟨by kernel_rfl, ?_⟩
      refine nx (sl 4 rfl (sl 5 rfl (sl 7 rfl sn))) (el 10 rfl (el 11 rfl (el 112 rfl en))) ?_
      refine tri_seq ?_
      refine tri_reg mixed hcx ?_ _ _
      refine ld rfl rfl tyZ rfl ?_
      refine mv rfl ?_
      refine ca rfl (h := r02_Of (by omega) (by omega)) (hn := ?_)
      refine ca rfl (h := r02_Add (by omega) (by omega)) (hn := ?_)
      refine st rfl rfl rfl tyZ rfl ?_
      refine ⟨by kernel_rfl, ?_⟩
      refine nx (sl 4 rfl sn) (el 10 rfl (el 11 rfl (el 112 rfl en))) ?_
      refine tri_ret ?_
      repeat (first | refine pn_thenr ?_ | refine pn_blkr ?_)
      exact ret1 hcx rfl (rv_cell (c' := cx) (n := 0) rfl rfl tyZ rfl) (z_eqz (hnc.2.1 hle h2).symm (by omega)) en
  · have hs1 := sgq_gt hd
    have hle : ¬ (((nea ((a : Rat) / (b : Rat)) : Int) : Rat)) ≤ ((a : Rat) / (b : Rat)) := Rat.not_le.2 hd
    refine tri_reg mixed hcx ?_ _ _
    refine ld rfl rfl tyZ rfl ?_
    refine ca rfl (h := r03_Of (by omega)) (hn := ?_)
    refine ld rfl rfl tyQ rfl ?_
    refine cb rfl (h := r3v_Cmp (by omega) (by omega)) (hn := ?_)
    refine clt rfl rfl (decide_eq_false (by omega)) ?_
    refine asg rfl ?_
    refine ⟨by kernel_rfl, ?_⟩
    refine nx (sl 1 rfl (sl 2 rfl (sl 4 rfl (sl 5 rfl (sl 6 rfl sn))))) (el 10 rfl (el 11 rfl (el 112 rfl en))) ?_
    refine tri_seq ?_
    refine tri_reg mixed hcx ?_ _ _
    refine mv rfl ?_
    refine ad (((n + 1 : Nat) : Int)) rfl rfl rfl (by omega) ?_
    refine qo ((((n + 1) / 2 : Nat) : Int)) rfl rfl rfl (by omega) ?_
    refine asg rfl ?_
    refine ⟨by kernel_rfl, ?_⟩
    refine nx (sl 1 rfl (sl 2 rfl (sl 4 rfl (sl 5 rfl (sl 6 rfl (sl 7 rfl sn)))))) (el 10 rfl (el 11 rfl (el 112 rfl en))) ?_
    refine tri_seq ?_
    refine tri_seq ?_
    refine tri_reg mixed hcx ?_ _ _
    refine ld rfl rfl tyZ rfl ?_
    refine ca rfl (h := r03_Of (by omega)) (hn := ?_)
    refine ld rfl rfl tyQ rfl ?_
    refine cb rfl (h := r3v_Cmp (by omega) (by omega)) (hn := ?_)
    refine ceq rfl rfl (decide_eq_false (by omega)) ?_
    refine ⟨by kernel_rfl, ?_⟩
    refine nx (sl 1 rfl (sl 4 rfl (sl 5 rfl (sl 6 rfl (sl 7 rfl (sl 22 rfl sn)))))) (el 10 rfl (el 11 rfl (el 112 rfl en))) ?_
    refine tri_false rfl rfl ?_
    refine tri_skip ?_
    refine nx (sl 1 rfl (sl 4 rfl (sl 5 rfl (sl 6 rfl (sl 7 rfl sn))))) (el 10 rfl (el 11 rfl (el 112 rfl en))) ?_
    refine tri_seq ?_
    refine tri_seq ?_
    by_cases h2 : n % 2 = 1
    · refine tri_reg mixed hcx ?_ _ _
      refine mv rfl ?_
      refine re (((n % 2 : Nat) : Int)) rfl rfl (by omega) ?_
      refine ceq rfl rfl (decide_eq_true (by omega)) ?_
      refine mv rfl ?_
      refine neb rfl rfl rfl ?_
      refine ⟨by kernel_rfl, ?_⟩
      refine nx (sl 4 rfl (sl 5 rfl (sl 7 rfl (sl 27 rfl sn)))) (el 10 rfl (el 11 rfl (el 112 rfl en))) ?_
      refine tri_true rfl rfl ?_
      refine tri_reg mixed hcx ?_ _ _
      refine mv rfl ?_
      refine ng ((-(((n + 1) / 2 : Nat) : Int))) rfl rfl (by omega) ?_
      refine asg rfl ?_
      refine ⟨by kernel_rfl, ?_⟩
      refine nx (sl 4 rfl (sl 5 rfl (sl 7 rfl sn))) (el 10 rfl (el 11 rfl (el 112 rfl en))) ?_
      refine tri_seq ?_
      refine tri_reg mixed hcx ?_ _ _
      refine ld rfl rfl tyZ rfl ?_
      refine mv rfl ?_
      refine ca rfl (h := r02_Of (by omega) (by omega)) (hn := ?_)
      refine ca rfl (h := r02_Add (by omega) (by omega)) (hn := ?_)
      refine st rfl rfl rfl tyZ rfl ?_
      refine ⟨by kernel_rfl, ?_⟩
      refine nx (sl 4 rfl sn) (el 10 rfl (el 11 rfl (el 112 rfl en))) ?_
      refine tri_ret ?_
      repeat (first | refine pn_thenr ?_ | refine pn_blkr ?_)
      exact ret1 hcx rfl (rv_cell (c' := cx) (n := 0) rfl rfl tyZ rfl) (z_eqz (hnc.2.2.1 hle h2).symm (by omega)) en
    · refine tri_reg mixed hcx ?_ _ _
      refine mv rfl ?_
      refine re (((n % 2 : Nat) : Int)) rfl rfl (by omega) ?_
      refine ceq rfl rfl (decide_eq_false (by omega)) ?_
      refine mv rfl ?_
      refine neb rfl rfl rfl ?_
      refine ⟨by kernel_rfl, ?_⟩
      refine nx (sl 4 rfl (sl 5 rfl (sl 7 rfl (sl 27 rfl sn)))) (el 10 rfl (el 11 rfl (el 112 rfl en))) ?_
      refine tri_false rfl rfl ?_
      refine tri_skip ?_
      refine nx (sl 4 rfl (sl 5 rfl (sl 7 rfl sn))) (el 10 rfl (el 11 rfl (el 112 rfl en))) ?_
      refine tri_seq ?_
      refine tri_reg mixed hcx ?_ _ _
      refine ld rfl rfl tyZ rfl ?_
      refine mv rfl ?_
      refine ca rfl (h := r02_Of (by omega) (by omega)) (hn := ?_)
      refine ca rfl (h := r02_Add (by omega) (by omega)) (hn := ?_)
      refine st rfl rfl rfl tyZ rfl ?_
      refine ⟨by kernel_rfl, ?_⟩
      refine nx (sl 4 rfl sn) (el 10 rfl (el 11 rfl (el 112 rfl en))) ?_
      refine tri_ret ?_
      repeat (first | refine pn_thenr ?_ | refine pn_blkr ?_)
      exact ret1 hcx rfl (rv_cell (c' := cx) (n := 0) rfl rfl tyZ rfl) (z_eqz (hnc.2.2.2 hle h2).symm (by omega)) en

theorem r11_NthV {c : Rat} {n k : Nat} (hk : k ≤ 1000000000) (hn : n ≤ 1073741824) : Fn Tryz.prog 72 [T.V c k, T.c (.int .i64 (n : Int))] [] [] [] (T.Z (nth c n) (k + 128)) := fn_v [] (Bs := [T.c (.int .i64 (n : Int))]) fun p p1 p2 p3 p4 => fn_out (r11_Nth p1 hk hn) (z_eqz (by rw [p2]) (Nat.le_refl _))

-- left out

-- left out

end Go.Proofs.YtekghdfbhbhigaaGreat.V
/- Search trees: what is no tree, what is too long. -/
set_option linter.unusedVariables false
set_option linter.unusedSimpArgs false
set_option maxRecDepth 100000
namespace Go.Proofs.YtekghdfbhbhigaaGreat.V
open Go.RowKit Mt Nml
/-- A tree that may be. -/
def TrV (D : List Int) (L : List (List Int)) (ts : List (Int × Int)) (a b : Int) : Prop := GoodP D L ∧ L.length ≤ 12 ∧ (ts.length = 0 ∨ ts.length = L.length) ∧ (∀ i, i < ts.length → 0 < (ts.getD i (0, 0)).2) ∧ 0 < b ∧ 0 ≤ a
theorem least_bad {P : Nat → Prop} : ∀ {n : Nat}, (¬ ∀ i, i < n → P i) → ∃ w, w < n ∧ ¬ P w ∧ ∀ i, i < w → P i
  | 0, h => absurd (fun i hi => absurd hi (Nat.not_lt_zero _)) h
  | n + 1, h => by
    classical
    by_cases h1 : ∀ i, i < n → P i
    · refine ⟨n, Nat.lt_succ_self _, fun hp => h fun i hi => ?_, h1⟩
      rcases Nat.lt_or_eq_of_le (Nat.le_of_lt_succ hi) with h2 | h2
      · exact h1 i h2
      · rw [h2]; exact hp
    · obtain ⟨w, k1, k2, k3⟩ := least_bad h1
      exact ⟨w, by omega, k2, k3⟩

theorem t_Valid_c1 {D : List Int} {L : List (List Int)} {ts : List (Int × Int)} {a b : Int} {k : Nat} (hk : k ≤ 16777216) (hLl : L.length ≤ 1048576) (hDl : D.length ≤ 1048576) (htl : ts.length ≤ 1048576) (hn : 12 < L.length) : Fn Tryz.prog 79 [T.Tr D L ts a b k] [] [] [] (T.c (.int .i64 110)) := by
  refine fn_of Tryz.func79 rfl (by show 1 ≤ 61; decide) fun cx hcx => ?_
  refine tri_sub (sl 0 rfl sn) en ?_
  refine tri_seq ?_
  refine tri_reg mixed hcx ?_ _ _
  refine bxs 10 rfl ?_
  refine asg rfl ?_
  refine ⟨by kernel_rfl, ?_⟩
  refine nx (sl 1 rfl sn) (el 10 rfl en) ?_
  refine tri_seq ?_
  refine tri_reg mixed hcx ?_ _ _
  refine fa rfl fTrG 0 ?_
  refine fa rfl fL 1 ?_
  refine ld rfl rfl tyZss rfl ?_
  refine ln slZss rfl ?_
  refine asg rfl ?_
  refine ⟨by kernel_rfl, ?_⟩
  refine nx (sl 1 rfl (sl 3 rfl sn)) (el 10 rfl en) ?_
  refine tri_seq ?_
  refine tri_seq ?_
  refine tri_reg mixed hcx ?_ _ _
  refine mv rfl ?_
  refine cgt rfl rfl (decide_eq_true (by omega)) ?_
  refine mv rfl ?_
  refine j_off rfl rfl rfl rfl ?_
  refine j_off rfl rfl rfl rfl ?_
  refine j_off rfl rfl rfl rfl ?_
  refine j_off rfl rfl rfl rfl ?_
  refine j_off rfl rfl rfl rfl ?_
  refine j_ofu rfl rfl rfl ?_
  refine j_ofu rfl rfl rfl ?_
  refine j_ofu rfl rfl rfl ?_
  refine j_ofu rfl rfl rfl ?_
  refine j_ofu rfl rfl rfl ?_
  refine j_off rfl rfl rfl rfl ?_
  refine pk rfl rfl ?_
  refine mv rfl ?_
  refine j_off rfl rfl rfl rfl ?_
  refine j_off rfl rfl rfl rfl ?_
  refine j_off rfl rfl rfl rfl ?_
  refine j_off rfl rfl rfl rfl ?_
  refine j_off rfl rfl rfl rfl ?_
  refine pk rfl rfl ?_
  refine mv rfl ?_
  refine j_off rfl rfl rfl rfl ?_
  refine j_off rfl rfl rfl rfl ?_
  refine j_off rfl rfl rfl rfl ?_
  refine j_off rfl rfl rfl rfl ?_
  refine j_off rfl rfl rfl rfl ?_
  refine pk rfl rfl ?_
  refine ⟨by kernel_rfl, ?_⟩
  refine nx (sl 1 rfl (sl 40 rfl sn)) (el 10 rfl en) ?_
  refine tri_true rfl rfl ?_
  refine tri_seq ?_
  refine tri_reg mixed hcx ?_ _ _
  refine asg rfl ?_
  refine ⟨by kernel_rfl, ?_⟩
  refine nx (sl 2 rfl sn) (el 10 rfl en) ?_
  refine tri_ret ?_
  repeat (first | refine pn_thenr ?_ | refine pn_blkr ?_)
  exact ret1 hcx rfl (rv_tmp rfl) (.refl _) en

theorem t_Valid_c2 {D : List Int} {L : List (List Int)} {ts : List (Int × Int)} {a b : Int} {k : Nat} (hk : k ≤ 16777216) (hLl : L.length ≤ 1048576) (hDl : D.length ≤ 1048576) (htl : ts.length ≤ 1048576) (hn : L.length ≤ 12) (h1 : ts.length ≠ 0) (h2 : ts.length ≠ L.length) : Fn Tryz.prog 79 [T.Tr D L ts a b k] [] [] [] (T.c (.int .i64 110)) := by
  refine fn_of Tryz.func79 rfl (by show 1 ≤ 61; decide) fun cx hcx => ?_
  refine tri_sub (sl 0 rfl sn) en ?_
  refine tri_seq ?_
  refine tri_reg mixed hcx ?_ _ _
  refine bxs 10 rfl ?_
  refine asg rfl ?_
  refine ⟨by kernel_rfl, ?_⟩
  refine nx (sl 1 rfl sn) (el 10 rfl en) ?_
  refine tri_seq ?_
  refine tri_reg mixed hcx ?_ _ _
  refine fa rfl fTrG 0 ?_
  refine fa rfl fL 1 ?_
  refine ld rfl rfl tyZss rfl ?_
  refine ln slZss rfl ?_
  refine asg rfl ?_
  refine ⟨by kernel_rfl, ?_⟩
  refine nx (sl 1 rfl (sl 3 rfl sn)) (el 10 rfl en) ?_
  refine tri_seq ?_
  refine tri_seq ?_
  refine tri_reg mixed hcx ?_ _ _
  refine mv rfl ?_
  refine cgt rfl rfl (decide_eq_false (by omega)) ?_
  refine mv rfl ?_
  refine fa rfl fTrT 2 ?_ (hg := gd1)
  refine ld rfl rfl tyQs rfl ?_ (hg := gd1)
  refine ln slQs rfl ?_ (hg := gd1)
  refine cne rfl rfl (decide_eq_true (by omega)) ?_ (hg := gd1)
  refine mv rfl ?_ (hg := gd1)
  refine fa rfl fTrT 2 ?_ (hg := gd1)
  refine ld rfl rfl tyQs rfl ?_ (hg := gd1)
  refine ln slQs rfl ?_ (hg := gd1)
  refine mv rfl ?_ (hg := gd1)
  refine cne rfl rfl (decide_eq_true (by omega)) ?_ (hg := gd1)
  refine pk rfl rfl ?_ (hg := gd1)
  refine pk rfl rfl ?_
  refine mv rfl ?_
  refine j_off rfl rfl rfl rfl ?_
  refine j_off rfl rfl rfl rfl ?_
  refine j_off rfl rfl rfl rfl ?_
  refine j_off rfl rfl rfl rfl ?_
  refine j_off rfl rfl rfl rfl ?_
  refine pk rfl rfl ?_
  refine mv rfl ?_
  refine j_off rfl rfl rfl rfl ?_
  refine j_off rfl rfl rfl rfl ?_
  refine j_off rfl rfl rfl rfl ?_
  refine j_off rfl rfl rfl rfl ?_
  refine j_off rfl rfl rfl rfl ?_
  refine pk rfl rfl ?_
  refine ⟨by kernel_rfl, ?_⟩
  refine nx (sl 1 rfl (sl 40 rfl sn)) (el 10 rfl en) ?_
  refine tri_true rfl rfl ?_
  refine tri_seq ?_
  refine tri_reg mixed hcx ?_ _ _
  refine asg rfl ?_
  refine ⟨by kernel_rfl, ?_⟩
  refine nx (sl 2 rfl sn) (el 10 rfl en) ?_
  refine tri_ret ?_
  repeat (first | refine pn_thenr ?_ | refine pn_blkr ?_)
  exact ret1 hcx rfl (rv_tmp rfl) (.refl _) en

theorem t_Valid_c3 {D : List Int} {L : List (List Int)} {ts : List (Int × Int)} {a b : Int} {k : Nat} (hk : k ≤ 16777216) (hLl : L.length ≤ 1048576) (hDl : D.length ≤ 1048576) (htl : ts.length ≤ 1048576) (hn : L.length ≤ 12) (ht : ts.length = 0 ∨ ts.length = L.length) (hb : ¬ 0 < b) : Fn Tryz.prog 79 [T.Tr D L ts a b k] [] [] [] (T.c (.int .i64 110)) := by
  refine fn_of Tryz.func79 rfl (by show 1 ≤ 61; decide) fun cx hcx => ?_
  refine tri_sub (sl 0 rfl sn) en ?_
  have hsb : sg b ≤ 0 := by rcases Int.lt_trichotomy b 0 with h | h | h; rw [sg_neg h]; decide; rw [h, sg_zero]; omega; omega
  refine tri_seq ?_
  refine tri_reg mixed hcx ?_ _ _
  refine bxs 10 rfl ?_
  refine asg rfl ?_
  refine ⟨by kernel_rfl, ?_⟩
  refine nx (sl 1 rfl sn) (el 10 rfl en) ?_
  refine tri_seq ?_
  refine tri_reg mixed hcx ?_ _ _
  refine fa rfl fTrG 0 ?_
  refine fa rfl fL 1 ?_
  refine ld rfl rfl tyZss rfl ?_
  refine ln slZss rfl ?_
  refine asg rfl ?_
  refine ⟨by kernel_rfl, ?_⟩
  refine nx (sl 1 rfl (sl 3 rfl sn)) (el 10 rfl en) ?_
  refine tri_seq ?_
  refine tri_seq ?_
  by_cases htz : ts.length = 0
  · refine tri_reg mixed hcx ?_ _ _
    refine mv rfl ?_
    refine cgt rfl rfl (decide_eq_false (by omega)) ?_
    refine mv rfl ?_
    refine fa rfl fTrT 2 ?_ (hg := gd1)
    refine ld rfl rfl tyQs rfl ?_ (hg := gd1)
    refine ln slQs rfl ?_ (hg := gd1)
    refine cne rfl rfl (decide_eq_false (by omega)) ?_ (hg := gd1)
    refine mv rfl ?_ (hg := gd1)
    refine j_off rfl rfl rfl rfl ?_
    refine j_off rfl rfl rfl rfl ?_
    refine j_off rfl rfl rfl rfl ?_
    refine j_off rfl rfl rfl rfl ?_
    refine j_off rfl rfl rfl rfl ?_
    refine pk rfl rfl ?_ (hg := gd1)
    refine pk rfl rfl ?_
    refine mv rfl ?_
    refine fa rfl fTrR 3 ?_ (hg := gd1)
    refine fa rfl fDen 5 ?_ (hg := gd1)
    refine ld rfl rfl tyZ rfl ?_ (hg := gd1)
    refine ca rfl (h := zi_Sign (by omega)) (hn := ?_) (hg := gd1)
    refine cle rfl rfl (decide_eq_true (by omega)) ?_ (hg := gd1)
    refine pk rfl rfl ?_
    refine mv rfl ?_
    refine j_off rfl rfl rfl rfl ?_
    refine j_off rfl rfl rfl rfl ?_
    refine j_off rfl rfl rfl rfl ?_
    refine j_off rfl rfl rfl rfl ?_
    refine j_off rfl rfl rfl rfl ?_
    refine pk rfl rfl ?_
    refine ⟨by kernel_rfl, ?_⟩
    refine nx (sl 1 rfl (sl 40 rfl sn)) (el 10 rfl en) ?_
    refine tri_true rfl rfl ?_
    refine tri_seq ?_
    refine tri_reg mixed hcx ?_ _ _
    refine asg rfl ?_
    refine ⟨by kernel_rfl, ?_⟩
    refine nx (sl 2 rfl sn) (el 10 rfl en) ?_
    refine tri_ret ?_
    repeat (first | refine pn_thenr ?_ | refine pn_blkr ?_)
    exact ret1 hcx rfl (rv_tmp rfl) (.refl _) en
  · have htn : ts.length = L.length := by rcases ht with h | h <;> omega
    refine tri_reg mixed hcx ?_ _ _
    refine mv rfl ?_
    refine cgt rfl rfl (decide_eq_false (by omega)) ?_
    refine mv rfl ?_
    refine fa rfl fTrT 2 ?_ (hg := gd1)
    refine ld rfl rfl tyQs rfl ?_ (hg := gd1)
    refine ln slQs rfl ?_ (hg := gd1)
    refine cne rfl rfl (decide_eq_true (by omega)) ?_ (hg := gd1)
    refine mv rfl ?_ (hg := gd1)
    refine fa rfl fTrT 2 ?_ (hg := gd1)
    refine ld rfl rfl tyQs rfl ?_ (hg := gd1)
    refine ln slQs rfl ?_ (hg := gd1)
    refine mv rfl ?_ (hg := gd1)
    refine cne rfl rfl (decide_eq_false (by omega)) ?_ (hg := gd1)
    refine pk rfl rfl ?_ (hg := gd1)
    refine pk rfl rfl ?_
    refine mv rfl ?_
    refine fa rfl fTrR 3 ?_ (hg := gd1)
    refine fa rfl fDen 5 ?_ (hg := gd1)
    refine ld rfl rfl tyZ rfl ?_ (hg := gd1)
    refine ca rfl (h := zi_Sign (by omega)) (hn := ?_) (hg := gd1)
    refine cle rfl rfl (decide_eq_true (by omega)) ?_ (hg := gd1)
    refine pk rfl rfl ?_
    refine mv rfl ?_
    refine j_off rfl rfl rfl rfl ?_
    refine j_off rfl rfl rfl rfl ?_
    refine j_off rfl rfl rfl rfl ?_
    refine j_off rfl rfl rfl rfl ?_
    refine j_off rfl rfl rfl rfl ?_
    refine pk rfl rfl ?_
    refine ⟨by kernel_rfl, ?_⟩
    refine nx (sl 1 rfl (sl 40 rfl sn)) (el 10 rfl en) ?_
    refine tri_true rfl rfl ?_
    refine tri_seq ?_
    refine tri_reg mixed hcx ?_ _ _
    refine asg rfl ?_
    refine ⟨by kernel_rfl, ?_⟩
    refine nx (sl 2 rfl sn) (el 10 rfl en) ?_
    refine tri_ret ?_
    repeat (first | refine pn_thenr ?_ | refine pn_blkr ?_)
    exact ret1 hcx rfl (rv_tmp rfl) (.refl _) en

theorem t_Valid_c4 {D : List Int} {L : List (List Int)} {ts : List (Int × Int)} {a b : Int} {k : Nat} (hk : k ≤ 16777216) (hLl : L.length ≤ 1048576) (hDl : D.length ≤ 1048576) (htl : ts.length ≤ 1048576) (hn : L.length ≤ 12) (ht : ts.length = 0 ∨ ts.length = L.length) (hb : 0 < b) (ha : ¬ 0 ≤ a) : Fn Tryz.prog 79 [T.Tr D L ts a b k] [] [] [] (T.c (.int .i64 110)) := by
  refine fn_of Tryz.func79 rfl (by show 1 ≤ 61; decide) fun cx hcx => ?_
  refine tri_sub (sl 0 rfl sn) en ?_
  have hsb : sg b = 1 := sg_pos hb
  have hsa : sg a = -1 := sg_neg (by omega)
  refine tri_seq ?_
  refine tri_reg mixed hcx ?_ _ _
  refine bxs 10 rfl ?_
  refine asg rfl ?_
  refine ⟨by kernel_rfl, ?_⟩
  refine nx (sl 1 rfl sn) (el 10 rfl en) ?_
  refine tri_seq ?_
  refine tri_reg mixed hcx ?_ _ _
  refine fa rfl fTrG 0 ?_
  refine fa rfl fL 1 ?_
  refine ld rfl rfl tyZss rfl ?_
  refine ln slZss rfl ?_
  refine asg rfl ?_
  refine ⟨by kernel_rfl, ?_⟩
  refine nx (sl 1 rfl (sl 3 rfl sn)) (el 10 rfl en) ?_
  refine tri_seq ?_
  refine tri_seq ?_
  by_cases htz : ts.length = 0
  · refine tri_reg mixed hcx ?_ _ _
    refine mv rfl ?_
    refine cgt rfl rfl (decide_eq_false (by omega)) ?_
    refine mv rfl ?_
    refine fa rfl fTrT 2 ?_ (hg := gd1)
    refine ld rfl rfl tyQs rfl ?_ (hg := gd1)
    refine ln slQs rfl ?_ (hg := gd1)
    refine cne rfl rfl (decide_eq_false (by omega)) ?_ (hg := gd1)
    refine mv rfl ?_ (hg := gd1)
    refine j_off rfl rfl rfl rfl ?_
    refine j_off rfl rfl rfl rfl ?_
    refine j_off rfl rfl rfl rfl ?_
    refine j_off rfl rfl rfl rfl ?_
    refine j_off rfl rfl rfl rfl ?_
    refine pk rfl rfl ?_ (hg := gd1)
    refine pk rfl rfl ?_
    refine mv rfl ?_
    refine fa rfl fTrR 3 ?_ (hg := gd1)
    refine fa rfl fDen 5 ?_ (hg := gd1)
    refine ld rfl rfl tyZ rfl ?_ (hg := gd1)
    refine ca rfl (h := zi_Sign (by omega)) (hn := ?_) (hg := gd1)
    refine cle rfl rfl (decide_eq_false (by omega)) ?_ (hg := gd1)
    refine pk rfl rfl ?_
    refine mv rfl ?_
    refine fa rfl fTrR 3 ?_ (hg := gd1)
    refine fa rfl fNum 3 ?_ (hg := gd1)
    refine ld rfl rfl tyZ rfl ?_ (hg := gd1)
    refine ca rfl (h := zi_Sign (by omega)) (hn := ?_) (hg := gd1)
    refine clt rfl rfl (decide_eq_true (by omega)) ?_ (hg := gd1)
    refine pk rfl rfl ?_
    refine ⟨by kernel_rfl, ?_⟩
    refine nx (sl 1 rfl (sl 40 rfl sn)) (el 10 rfl en) ?_
    refine tri_true rfl rfl ?_
    refine tri_seq ?_
    refine tri_reg mixed hcx ?_ _ _
    refine asg rfl ?_
    refine ⟨by kernel_rfl, ?_⟩
    refine nx (sl 2 rfl sn) (el 10 rfl en) ?_
    refine tri_ret ?_
    repeat (first | refine pn_thenr ?_ | refine pn_blkr ?_)
    exact ret1 hcx rfl (rv_tmp rfl) (.refl _) en
  · have htn : ts.length = L.length := by rcases ht with h | h <;> omega
    refine tri_reg mixed hcx ?_ _ _
    refine mv rfl ?_
    refine cgt rfl rfl (decide_eq_false (by omega)) ?_
    refine mv rfl ?_
    refine fa rfl fTrT 2 ?_ (hg := gd1)
    refine ld rfl rfl tyQs rfl ?_ (hg := gd1)
    refine ln slQs rfl ?_ (hg := gd1)
    refine cne rfl rfl (decide_eq_true (by omega)) ?_ (hg := gd1)
    refine mv rfl ?_ (hg := gd1)
    refine fa rfl fTrT 2 ?_ (hg := gd1)
    refine ld rfl rfl tyQs rfl ?_ (hg := gd1)
    refine ln slQs rfl ?_ (hg := gd1)
    refine mv rfl ?_ (hg := gd1)
    refine cne rfl rfl (decide_eq_false (by omega)) ?_ (hg := gd1)
    refine pk rfl rfl ?_ (hg := gd1)
    refine pk rfl rfl ?_
    refine mv rfl ?_
    refine fa rfl fTrR 3 ?_ (hg := gd1)
    refine fa rfl fDen 5 ?_ (hg := gd1)
    refine ld rfl rfl tyZ rfl ?_ (hg := gd1)
    refine ca rfl (h := zi_Sign (by omega)) (hn := ?_) (hg := gd1)
    refine cle rfl rfl (decide_eq_false (by omega)) ?_ (hg := gd1)
    refine pk rfl rfl ?_
    refine mv rfl ?_
    refine fa rfl fTrR 3 ?_ (hg := gd1)
    refine fa rfl fNum 3 ?_ (hg := gd1)
    refine ld rfl rfl tyZ rfl ?_ (hg := gd1)
    refine ca rfl (h := zi_Sign (by omega)) (hn := ?_) (hg := gd1)
    refine clt rfl rfl (decide_eq_true (by omega)) ?_ (hg := gd1)
    refine pk rfl rfl ?_
    refine ⟨by kernel_rfl, ?_⟩
    refine nx (sl 1 rfl (sl 40 rfl sn)) (el 10 rfl en) ?_
    refine tri_true rfl rfl ?_
    refine tri_seq ?_
    refine tri_reg mixed hcx ?_ _ _
    refine asg rfl ?_
    refine ⟨by kernel_rfl, ?_⟩
    refine nx (sl 2 rfl sn) (el 10 rfl en) ?_
    refine tri_ret ?_
    repeat (first | refine pn_thenr ?_ | refine pn_blkr ?_)
    exact ret1 hcx rfl (rv_tmp rfl) (.refl _) en

theorem t_Valid_c5 {D : List Int} {L : List (List Int)} {ts : List (Int × Int)} {a b : Int} {k : Nat} (hk : k ≤ 16777216) (hLl : L.length ≤ 1048576) (hDl : D.length ≤ 1048576) (htl : ts.length ≤ 1048576) (hn : L.length ≤ 12) (ht : ts.length = 0 ∨ ts.length = L.length) (hb : 0 < b) (ha : 0 ≤ a) (hG : ¬ GoodP D L) : Fn Tryz.prog 79 [T.Tr D L ts a b k] [] [] [] (T.c (.int .i64 110)) := by
  refine fn_of Tryz.func79 rfl (by show 1 ≤ 61; decide) fun cx hcx => ?_
  refine tri_sub (sl 0 rfl sn) en ?_
  have hsb : sg b = 1 := sg_pos hb
  have hsa : 0 ≤ sg a := sg_nn ha
  refine tri_seq ?_
  refine tri_reg mixed hcx ?_ _ _
  refine bxs 10 rfl ?_
  refine asg rfl ?_
  refine ⟨by kernel_rfl, ?_⟩
  refine nx (sl 1 rfl sn) (el 10 rfl en) ?_
  refine tri_seq ?_
  refine tri_reg mixed hcx ?_ _ _
  refine fa rfl fTrG 0 ?_
  refine fa rfl fL 1 ?_
  refine ld rfl rfl tyZss rfl ?_
  refine ln slZss rfl ?_
  refine asg rfl ?_
  refine ⟨by kernel_rfl, ?_⟩
  refine nx (sl 1 rfl (sl 3 rfl sn)) (el 10 rfl en) ?_
  refine tri_seq ?_
  refine tri_seq ?_
  by_cases htz : ts.length = 0
  · refine tri_reg mixed hcx ?_ _ _
    refine mv rfl ?_
    refine cgt rfl rfl (decide_eq_false (by omega)) ?_
    refine mv rfl ?_
    refine fa rfl fTrT 2 ?_ (hg := gd1)
    refine ld rfl rfl tyQs rfl ?_ (hg := gd1)
    refine ln slQs rfl ?_ (hg := gd1)
    refine cne rfl rfl (decide_eq_false (by omega)) ?_ (hg := gd1)
    refine mv rfl ?_ (hg := gd1)
    refine j_off rfl rfl rfl rfl ?_
    refine j_off rfl rfl rfl rfl ?_
    refine j_off rfl rfl rfl rfl ?_
    refine j_off rfl rfl rfl rfl ?_
    refine j_off rfl rfl rfl rfl ?_
    refine pk rfl rfl ?_ (hg := gd1)
    refine pk rfl rfl ?_
    refine mv rfl ?_
    refine fa rfl fTrR 3 ?_ (hg := gd1)
    refine fa rfl fDen 5 ?_ (hg := gd1)
    refine ld rfl rfl tyZ rfl ?_ (hg := gd1)
    refine ca rfl (h := zi_Sign (by omega)) (hn := ?_) (hg := gd1)
    refine cle rfl rfl (decide_eq_false (by omega)) ?_ (hg := gd1)
    refine pk rfl rfl ?_
    refine mv rfl ?_
    refine fa rfl fTrR 3 ?_ (hg := gd1)
    refine fa rfl fNum 3 ?_ (hg := gd1)
    refine ld rfl rfl tyZ rfl ?_ (hg := gd1)
    refine ca rfl (h := zi_Sign (by omega)) (hn := ?_) (hg := gd1)
    refine clt rfl rfl (decide_eq_false (by omega)) ?_ (hg := gd1)
    refine pk rfl rfl ?_
    refine ⟨by kernel_rfl, ?_⟩
    refine nx (sl 1 rfl (sl 40 rfl sn)) (el 10 rfl en) ?_
    refine tri_false rfl rfl ?_
    refine tri_skip ?_
    refine nx (sl 1 rfl sn) (el 10 rfl en) ?_
    refine tri_seq ?_
    refine tri_seq ?_
    refine tri_reg mixed hcx ?_ _ _
    refine fa rfl fTrG 0 ?_
    refine ld rfl rfl tyG rfl ?_
    refine ca rfl (h := g_Star_no (k := k) (i := 0) (by omega) (by omega) (by omega) hG) (hn := ?_)
    refine mv rfl ?_
    refine ex rfl rfl ?_
    refine ex rfl rfl ?_
    refine nw 416 zeQ ?_
    refine st rfl rfl rfl tyQ rfl ?_
    refine asg rfl ?_
    refine ⟨by kernel_rfl, ?_⟩
    refine nx (sl 1 rfl (sl 5 rfl sn)) (el 10 rfl (el 416 rfl en)) ?_
    refine tri_seq ?_
    refine tri_reg mixed hcx ?_ _ _
    refine mv rfl ?_
    refine cne rfl rfl (decide_eq_true (by omega)) ?_
    refine ⟨by kernel_rfl, ?_⟩
    refine nx (sl 1 rfl (sl 48 rfl sn)) (el 10 rfl (el 416 rfl en)) ?_
    refine tri_true rfl rfl ?_
    refine tri_seq ?_
    refine tri_reg mixed hcx ?_ _ _
    refine asg rfl ?_
    refine ⟨by kernel_rfl, ?_⟩
    refine nx (sl 2 rfl sn) (el 10 rfl (el 416 rfl en)) ?_
    refine tri_ret ?_
    repeat (first | refine pn_thenr ?_ | refine pn_blkr ?_)
    exact ret1 hcx rfl (rv_tmp rfl) (.refl _) en
  · have htn : ts.length = L.length := by rcases ht with h | h <;> omega
    refine tri_reg mixed hcx ?_ _ _
    refine mv rfl ?_
    refine cgt rfl rfl (decide_eq_false (by omega)) ?_
    refine mv rfl ?_
    refine fa rfl fTrT 2 ?_ (hg := gd1)
    refine ld rfl rfl tyQs rfl ?_ (hg := gd1)
    refine ln slQs rfl ?_ (hg := gd1)
    refine cne rfl rfl (decide_eq_true (by omega)) ?_ (hg := gd1)
    refine mv rfl ?_ (hg := gd1)
    refine fa rfl fTrT 2 ?_ (hg := gd1)
    refine ld rfl rfl tyQs rfl ?_ (hg := gd1)
    refine ln slQs rfl ?_ (hg := gd1)
    refine mv rfl ?_ (hg := gd1)
    refine cne rfl rfl (decide_eq_false (by omega)) ?_ (hg := gd1)
    refine pk rfl rfl ?_ (hg := gd1)
    refine pk rfl rfl ?_
    refine mv rfl ?_
    refine fa rfl fTrR 3 ?_ (hg := gd1)
    refine fa rfl fDen 5 ?_ (hg := gd1)
    refine ld rfl rfl tyZ rfl ?_ (hg := gd1)
    refine ca rfl (h := zi_Sign (by omega)) (hn := ?_) (hg := gd1)
    refine cle rfl rfl (decide_eq_false (by omega)) ?_ (hg := gd1)
    refine pk rfl rfl ?_
    refine mv rfl ?_
    refine fa rfl fTrR 3 ?_ (hg := gd1)
    refine fa rfl fNum 3 ?_ (hg := gd1)
    refine ld rfl rfl tyZ rfl ?_ (hg := gd1)
    refine ca rfl (h := zi_Sign (by omega)) (hn := ?_) (hg := gd1)
    refine clt rfl rfl (decide_eq_false (by omega)) ?_ (hg := gd1)
    refine pk rfl rfl ?_
    refine ⟨by kernel_rfl, ?_⟩
    refine nx (sl 1 rfl (sl 40 rfl sn)) (el 10 rfl en) ?_
    refine tri_false rfl rfl ?_
    refine tri_skip ?_
    refine nx (sl 1 rfl sn) (el 10 rfl en) ?_
    refine tri_seq ?_
    refine tri_seq ?_
    refine tri_reg mixed hcx ?_ _ _
    refine fa rfl fTrG 0 ?_
    refine ld rfl rfl tyG rfl ?_
    refine ca rfl (h := g_Star_no (k := k) (i := 0) (by omega) (by omega) (by omega) hG) (hn := ?_)
    refine mv rfl ?_
    refine ex rfl rfl ?_
    refine ex rfl rfl ?_
    refine nw 416 zeQ ?_
    refine st rfl rfl rfl tyQ rfl ?_
    refine asg rfl ?_
    refine ⟨by kernel_rfl, ?_⟩
    refine nx (sl 1 rfl (sl 5 rfl sn)) (el 10 rfl (el 416 rfl en)) ?_
    refine tri_seq ?_
    refine tri_reg mixed hcx ?_ _ _
    refine mv rfl ?_
    refine cne rfl rfl (decide_eq_true (by omega)) ?_
    refine ⟨by kernel_rfl, ?_⟩
    refine nx (sl 1 rfl (sl 48 rfl sn)) (el 10 rfl (el 416 rfl en)) ?_
    refine tri_true rfl rfl ?_
    refine tri_seq ?_
    refine tri_reg mixed hcx ?_ _ _
    refine asg rfl ?_
    refine ⟨by kernel_rfl, ?_⟩
    refine nx (sl 2 rfl sn) (el 10 rfl (el 416 rfl en)) ?_
    refine tri_ret ?_
    repeat (first | refine pn_thenr ?_ | refine pn_blkr ?_)
    exact ret1 hcx rfl (rv_tmp rfl) (.refl _) en

theorem t_Valid_c6 {D : List Int} {L : List (List Int)} {ts : List (Int × Int)} {a b : Int} {k : Nat} (hk : k ≤ 16777216) (hLl : L.length ≤ 1048576) (hDl : D.length ≤ 1048576) (htl : ts.length ≤ 1048576) (hn : L.length ≤ 12) (ht : ts.length = 0 ∨ ts.length = L.length) (hb : 0 < b) (ha : 0 ≤ a) (hG : GoodP D L) {w : Nat} (hw : w < ts.length) (hw1 : ¬ 0 < (ts.getD w (0, 0)).2) (hw2 : ∀ i, i < w → 0 < (ts.getD i (0, 0)).2) : Fn Tryz.prog 79 [T.Tr D L ts a b k] [] [] [] (T.c (.int .i64 110)) := by
  refine fn_of Tryz.func79 rfl (by show 1 ≤ 61; decide) fun cx hcx => ?_
  refine tri_sub (sl 0 rfl sn) en ?_
  have hsb : sg b = 1 := sg_pos hb
  have hsa : 0 ≤ sg a := sg_nn ha
  refine tri_seq ?_
  refine tri_reg mixed hcx ?_ _ _
  refine bxs 10 rfl ?_
  refine asg rfl ?_
  refine ⟨by kernel_rfl, ?_⟩
  refine nx (sl 1 rfl sn) (el 10 rfl en) ?_
  refine tri_seq ?_
  refine tri_reg mixed hcx ?_ _ _
  refine fa rfl fTrG 0 ?_
  refine fa rfl fL 1 ?_
  refine ld rfl rfl tyZss rfl ?_
  refine ln slZss rfl ?_
  refine asg rfl ?_
  refine ⟨by kernel_rfl, ?_⟩
  refine nx (sl 1 rfl (sl 3 rfl sn)) (el 10 rfl en) ?_
  refine tri_seq ?_
  refine tri_seq ?_
  by_cases htz : ts.length = 0
  · refine tri_reg mixed hcx ?_ _ _
    refine mv rfl ?_
    refine cgt rfl rfl (decide_eq_false (by omega)) ?_
    refine mv rfl ?_
    refine fa rfl fTrT 2 ?_ (hg := gd1)
    refine ld rfl rfl tyQs rfl ?_ (hg := gd1)
    refine ln slQs rfl ?_ (hg := gd1)
    refine cne rfl rfl (decide_eq_false (by omega)) ?_ (hg := gd1)
    refine mv rfl ?_ (hg := gd1)
    refine j_off rfl rfl rfl rfl ?_
    refine j_off rfl rfl rfl rfl ?_
    refine j_off rfl rfl rfl rfl ?_
    refine j_off rfl rfl rfl rfl ?_
    refine j_off rfl rfl rfl rfl ?_
    refine pk rfl rfl ?_ (hg := gd1)
    refine pk rfl rfl ?_
    refine mv rfl ?_
    refine fa rfl fTrR 3 ?_ (hg := gd1)
    refine fa rfl fDen 5 ?_ (hg := gd1)
    refine ld rfl rfl tyZ rfl ?_ (hg := gd1)
    refine ca rfl (h := zi_Sign (by omega)) (hn := ?_) (hg := gd1)
    refine cle rfl rfl (decide_eq_false (by omega)) ?_ (hg := gd1)
    refine pk rfl rfl ?_
    refine mv rfl ?_
    refine fa rfl fTrR 3 ?_ (hg := gd1)
    refine fa rfl fNum 3 ?_ (hg := gd1)
    refine ld rfl rfl tyZ rfl ?_ (hg := gd1)
    refine ca rfl (h := zi_Sign (by omega)) (hn := ?_) (hg := gd1)
    refine clt rfl rfl (decide_eq_false (by omega)) ?_ (hg := gd1)
    refine pk rfl rfl ?_
    refine ⟨by kernel_rfl, ?_⟩
    refine nx (sl 1 rfl (sl 40 rfl sn)) (el 10 rfl en) ?_
    refine tri_false rfl rfl ?_
    refine tri_skip ?_
    refine nx (sl 1 rfl sn) (el 10 rfl en) ?_
    refine tri_seq ?_
    refine tri_seq ?_
    refine tri_reg mixed hcx ?_ _ _
    refine fa rfl fTrG 0 ?_
    refine ld rfl rfl tyG rfl ?_
    refine ca rfl (h := g_Star (k := k) (i := 0) (by omega) (by omega) hG hG.1) (hn := ?_)
    refine mv rfl ?_
    refine ex rfl rfl ?_
    refine ex rfl rfl ?_
    refine nw 416 zeQ ?_
    refine st rfl rfl rfl tyQ rfl ?_
    refine asg rfl ?_
    refine ⟨by kernel_rfl, ?_⟩
    refine nx (sl 1 rfl (sl 5 rfl sn)) (el 10 rfl (el 416 rfl en)) ?_
    refine tri_seq ?_
    refine tri_reg mixed hcx ?_ _ _
    refine mv rfl ?_
    refine cne rfl rfl (decide_eq_false (by omega)) ?_
    refine ⟨by kernel_rfl, ?_⟩
    refine nx (sl 1 rfl (sl 48 rfl sn)) (el 10 rfl (el 416 rfl en)) ?_
    refine tri_false rfl rfl ?_
    refine tri_skip ?_
    refine nx (sl 1 rfl sn) (el 10 rfl (el 416 rfl en)) ?_
    refine tri_seq ?_
    refine tri_seq ?_
    refine tri_reg mixed hcx ?_ _ _
    refine fa rfl fTrT 2 ?_
    refine ld rfl rfl tyQs rfl ?_
    refine ln slQs rfl ?_
    refine mv rfl ?_
    refine ⟨by kernel_rfl, ?_⟩
    refine nx (sl 50 rfl (sl 51 rfl (sl 52 rfl sn))) (el 10 rfl (el 416 rfl en)) ?_
    refine tri_block ?_
    refine tri_loop (ι := Nat) (fun i => [(50, T.l (cQi k) ts), (51, T.c (.int .i64 (ts.length : Int))), (52, T.c (.int .i64 (i : Int)))]) (fun i => []) (fun i => ts.length - i) (fun i => (i ≤ w)) 0 (Nat.zero_le _) (sl 50 rfl (sl 51 rfl (sl 52 rfl sn))) en ?_
    rintro i hi
    refine tri_sub (sl 50 rfl (sl 51 rfl (sl 52 rfl sn))) en ?_
    refine tri_seq ?_
    refine tri_reg mixed hcx ?_ _ _
    refine clt rfl rfl (decide_eq_true (by omega)) ?_
    refine ⟨by kernel_rfl, ?_⟩
    refine nx (sl 50 rfl (sl 51 rfl (sl 52 rfl (sl 53 rfl sn)))) en ?_
    refine tri_seq ?_
    refine tri_true rfl rfl ?_
    refine tri_skip ?_
    refine nx (sl 50 rfl (sl 51 rfl (sl 52 rfl sn))) en ?_
    refine tri_seq ?_
    refine tri_block ?_
    refine tri_seq ?_
    refine tri_reg mixed hcx ?_ _ _
    refine ix rfl rfl slQs ⟨rfl, by omega⟩ ?_
    refine lf rfl tyQ ?_
    refine nw 912 zeQ ?_
    refine sts (zz := [T.Zi (ts.getD i (cQi k).dflt).1 k, T.Zi (ts.getD i (cQi k).dflt).2 k]) rfl rfl rfl tyQ rfl ?_
    refine ⟨by kernel_rfl, ?_⟩
    refine nx (sl 7 rfl (sl 50 rfl (sl 51 rfl (sl 52 rfl sn)))) (el 912 rfl en) ?_
    refine tri_seq ?_
    rcases Nat.lt_or_eq_of_le hi with hlt | heq
    · have hte : sg (ts.getD i (cQi k).dflt).2 = 1 := sg_pos (hw2 i hlt)
      refine tri_reg mixed hcx ?_ _ _
      refine fa rfl fDen 2 ?_
      refine ld rfl rfl tyZ rfl ?_
      refine ca rfl (h := zi_Sign (by omega)) (hn := ?_)
      refine cle rfl rfl (decide_eq_false (by omega)) ?_
      refine ⟨by kernel_rfl, ?_⟩
      refine nx (sl 50 rfl (sl 51 rfl (sl 52 rfl (sl 59 rfl sn)))) (el 912 rfl en) ?_
      refine tri_false rfl rfl ?_
      refine tri_skip ?_
      refine pn_blk ?_
      refine nx (sl 50 rfl (sl 51 rfl (sl 52 rfl sn))) (el 912 rfl en) ?_
      refine tri_reg mixed hcx ?_ _ _
      refine ad (((i + 1 : Nat) : Int)) rfl rfl rfl (by omega) ?_
      refine mv rfl ?_
      refine ⟨by kernel_rfl, ?_⟩
      exact pn_back (i + 1) (by first | omega | (dsimp only; omega)) (by omega) (sl 50 rfl (sl 51 rfl (sl 52 rfl sn))) en
    · have hte : sg (ts.getD i (cQi k).dflt).2 ≤ 0 := by rw [heq]; have h0 : ¬ 0 < (ts.getD w (cQi k).dflt).2 := hw1; rcases Int.lt_trichotomy (ts.getD w (cQi k).dflt).2 0 with h | h | h; rw [sg_neg h]; decide; rw [h, sg_zero]; omega; omega
      refine tri_reg mixed hcx ?_ _ _
      refine fa rfl fDen 2 ?_
      refine ld rfl rfl tyZ rfl ?_
      refine ca rfl (h := zi_Sign (by omega)) (hn := ?_)
      refine cle rfl rfl (decide_eq_true (by omega)) ?_
      refine ⟨by kernel_rfl, ?_⟩
      refine nx (sl 50 rfl (sl 51 rfl (sl 52 rfl (sl 59 rfl sn)))) (el 912 rfl en) ?_
      refine tri_true rfl rfl ?_
      refine tri_seq ?_
      refine tri_reg mixed hcx ?_ _ _
      refine asg rfl ?_
      refine ⟨by kernel_rfl, ?_⟩
      refine nx (sl 2 rfl sn) (el 912 rfl en) ?_
      refine tri_ret ?_
      repeat (first | refine pn_thenr ?_ | refine pn_blkr ?_)
      exact ret1 hcx rfl (rv_tmp rfl) (.refl _) en
  · have htn : ts.length = L.length := by rcases ht with h | h <;> omega
    refine tri_reg mixed hcx ?_ _ _
    refine mv rfl ?_
    refine cgt rfl rfl (decide_eq_false (by omega)) ?_
    refine mv rfl ?_
    refine fa rfl fTrT 2 ?_ (hg := gd1)
    refine ld rfl rfl tyQs rfl ?_ (hg := gd1)
    refine ln slQs rfl ?_ (hg := gd1)
    refine cne rfl rfl (decide_eq_true (by omega)) ?_ (hg := gd1)
    refine mv rfl ?_ (hg := gd1)
    refine fa rfl fTrT 2 ?_ (hg := gd1)
    refine ld rfl rfl tyQs rfl ?_ (hg := gd1)
    refine ln slQs rfl ?_ (hg := gd1)
    refine mv rfl ?_ (hg := gd1)
    refine cne rfl rfl (decide_eq_false (by omega)) ?_ (hg := gd1)
    refine pk rfl rfl ?_ (hg := gd1)
    refine pk rfl rfl ?_
    refine mv rfl ?_
    refine fa rfl fTrR 3 ?_ (hg := gd1)
    refine fa rfl fDen 5 ?_ (hg := gd1)
    refine ld rfl rfl tyZ rfl ?_ (hg := gd1)
    refine ca rfl (h := zi_Sign (by omega)) (hn := ?_) (hg := gd1)
    refine cle rfl rfl (decide_eq_false (by omega)) ?_ (hg := gd1)
    refine pk rfl rfl ?_
    refine mv rfl ?_
    refine fa rfl fTrR 3 ?_ (hg := gd1)
    refine fa rfl fNum 3 ?_ (hg := gd1)
    refine ld rfl rfl tyZ rfl ?_ (hg := gd1)
    refine ca rfl (h := zi_Sign (by omega)) (hn := ?_) (hg := gd1)
    refine clt rfl rfl (decide_eq_false (by omega)) ?_ (hg := gd1)
    refine pk rfl rfl ?_
    refine ⟨by kernel_rfl, ?_⟩
    refine nx (sl 1 rfl (sl 40 rfl sn)) (el 10 rfl en) ?_
    refine tri_false rfl rfl ?_
    refine tri_skip ?_
    refine nx (sl 1 rfl sn) (el 10 rfl en) ?_
    refine tri_seq ?_
    refine tri_seq ?_
    refine tri_reg mixed hcx ?_ _ _
    refine fa rfl fTrG 0 ?_
    refine ld rfl rfl tyG rfl ?_
    refine ca rfl (h := g_Star (k := k) (i := 0) (by omega) (by omega) hG hG.1) (hn := ?_)
    refine mv rfl ?_
    refine ex rfl rfl ?_
    refine ex rfl rfl ?_
    refine nw 416 zeQ ?_
    refine st rfl rfl rfl tyQ rfl ?_
    refine asg rfl ?_
    refine ⟨by kernel_rfl, ?_⟩
    refine nx (sl 1 rfl (sl 5 rfl sn)) (el 10 rfl (el 416 rfl en)) ?_
    refine tri_seq ?_
    refine tri_reg mixed hcx ?_ _ _
    refine mv rfl ?_
    refine cne rfl rfl (decide_eq_false (by omega)) ?_
    refine ⟨by kernel_rfl, ?_⟩
    refine nx (sl 1 rfl (sl 48 rfl sn)) (el 10 rfl (el 416 rfl en)) ?_
    refine tri_false rfl rfl ?_
    refine tri_skip ?_
    refine nx (sl 1 rfl sn) (el 10 rfl (el 416 rfl en)) ?_
    refine tri_seq ?_
    refine tri_seq ?_
    refine tri_reg mixed hcx ?_ _ _
    refine fa rfl fTrT 2 ?_
    refine ld rfl rfl tyQs rfl ?_
    refine ln slQs rfl ?_
    refine mv rfl ?_
    refine ⟨by kernel_rfl, ?_⟩
    refine nx (sl 50 rfl (sl 51 rfl (sl 52 rfl sn))) (el 10 rfl (el 416 rfl en)) ?_
    refine tri_block ?_
    refine tri_loop (ι := Nat) (fun i => [(50, T.l (cQi k) ts), (51, T.c (.int .i64 (ts.length : Int))), (52, T.c (.int .i64 (i : Int)))]) (fun i => []) (fun i => ts.length - i) (fun i => (i ≤ w)) 0 (Nat.zero_le _) (sl 50 rfl (sl 51 rfl (sl 52 rfl sn))) en ?_
    rintro i hi
    refine tri_sub (sl 50 rfl (sl 51 rfl (sl 52 rfl sn))) en ?_
    refine tri_seq ?_
    refine tri_reg mixed hcx ?_ _ _
    refine clt rfl rfl (decide_eq_true (by omega)) ?_
    refine ⟨by kernel_rfl, ?_⟩
    refine nx (sl 50 rfl (sl 51 rfl (sl 52 rfl (sl 53 rfl sn)))) en ?_
    refine tri_seq ?_
    refine tri_true rfl rfl ?_
    refine tri_skip ?_
    refine nx (sl 50 rfl (sl 51 rfl (sl 52 rfl sn))) en ?_
    refine tri_seq ?_
    refine tri_block ?_
    refine tri_seq ?_
    refine tri_reg mixed hcx ?_ _ _
    refine ix rfl rfl slQs ⟨rfl, by omega⟩ ?_
    refine lf rfl tyQ ?_
    refine nw 912 zeQ ?_
    refine sts (zz := [T.Zi (ts.getD i (cQi k).dflt).1 k, T.Zi (ts.getD i (cQi k).dflt).2 k]) rfl rfl rfl tyQ rfl ?_
    refine ⟨by kernel_rfl, ?_⟩
    refine nx (sl 7 rfl (sl 50 rfl (sl 51 rfl (sl 52 rfl sn)))) (el 912 rfl en) ?_
    refine tri_seq ?_
    rcases Nat.lt_or_eq_of_le hi with hlt | heq
    · have hte : sg (ts.getD i (cQi k).dflt).2 = 1 := sg_pos (hw2 i hlt)
      refine tri_reg mixed hcx ?_ _ _
      refine fa rfl fDen 2 ?_
      refine ld rfl rfl tyZ rfl ?_
      refine ca rfl (h := zi_Sign (by omega)) (hn := ?_)
      refine cle rfl rfl (decide_eq_false (by omega)) ?_
      refine ⟨by kernel_rfl, ?_⟩
      refine nx (sl 50 rfl (sl 51 rfl (sl 52 rfl (sl 59 rfl sn)))) (el 912 rfl en) ?_
      refine tri_false rfl rfl ?_
      refine tri_skip ?_
      refine pn_blk ?_
      refine nx (sl 50 rfl (sl 51 rfl (sl 52 rfl sn))) (el 912 rfl en) ?_
      refine tri_reg mixed hcx ?_ _ _
      refine ad (((i + 1 : Nat) : Int)) rfl rfl rfl (by omega) ?_
      refine mv rfl ?_
      refine ⟨by kernel_rfl, ?_⟩
      exact pn_back (i + 1) (by first | omega | (dsimp only; omega)) (by omega) (sl 50 rfl (sl 51 rfl (sl 52 rfl sn))) en
    · have hte : sg (ts.getD i (cQi k).dflt).2 ≤ 0 := by rw [heq]; have h0 : ¬ 0 < (ts.getD w (cQi k).dflt).2 := hw1; rcases Int.lt_trichotomy (ts.getD w (cQi k).dflt).2 0 with h | h | h; rw [sg_neg h]; decide; rw [h, sg_zero]; omega; omega
      refine tri_reg mixed hcx ?_ _ _
      refine fa rfl fDen 2 ?_
      refine ld rfl rfl tyZ rfl ?_
      refine ca rfl (h := zi_Sign (by omega)) (hn := ?_)
      refine cle rfl rfl (decide_eq_true (by omega)) ?_
      refine ⟨by kernel_rfl, ?_⟩
      refine nx (sl 50 rfl (sl 51 rfl (sl 52 rfl (sl 59 rfl sn)))) (el 912 rfl en) ?_
      refine tri_true rfl rfl ?_
      refine tri_seq ?_
      refine tri_reg mixed hcx ?_ _ _
      refine asg rfl ?_
      refine ⟨by kernel_rfl, ?_⟩
      refine nx (sl 2 rfl sn) (el 912 rfl en) ?_
      refine tri_ret ?_
      repeat (first | refine pn_thenr ?_ | refine pn_blkr ?_)
      exact ret1 hcx rfl (rv_tmp rfl) (.refl _) en

/-- What is no tree is refused. -/
theorem t_Valid_no {D : List Int} {L : List (List Int)} {ts : List (Int × Int)} {a b : Int} {k : Nat} (hk : k ≤ 16777216) (hLl : L.length ≤ 1048576) (hDl : D.length ≤ 1048576) (htl : ts.length ≤ 1048576) (hV : ¬ TrV D L ts a b) : Fn Tryz.prog 79 [T.Tr D L ts a b k] [] [] [] (T.c (.int .i64 110)) := by
  classical
  by_cases hn : L.length ≤ 12
  · by_cases ht : ts.length = 0 ∨ ts.length = L.length
    · by_cases hb : 0 < b
      · by_cases ha : 0 ≤ a
        · by_cases hG : GoodP D L
          · obtain ⟨w, h1, h2, h3⟩ := least_bad (P := fun i => 0 < (ts.getD i (0, 0)).2) (n := ts.length) (fun h => hV ⟨hG, hn, ht, h, hb, ha⟩)
            exact t_Valid_c6 hk hLl hDl htl hn ht hb ha hG h1 h2 h3
          · exact t_Valid_c5 hk hLl hDl htl hn ht hb ha hG
        · exact t_Valid_c4 hk hLl hDl htl hn ht hb ha
      · exact t_Valid_c3 hk hLl hDl htl hn ht hb
    · exact t_Valid_c2 hk hLl hDl htl hn (fun h => ht (.inl h)) (fun h => ht (.inr h))
  · exact t_Valid_c1 hk hLl hDl htl (by omega)

end Go.Proofs.YtekghdfbhbhigaaGreat.V
/- Search trees: the document's parts and centres. -/
set_option linter.unusedVariables false
set_option linter.unusedSimpArgs false
set_option maxRecDepth 100000
namespace Go.Proofs.YtekghdfbhbhigaaGreat.V
open Go.RowKit Mt Nml
theorem sgq_le {x y : Rat} : sg (x - y).num ≤ 0 ↔ x ≤ y := by
  rcases three x y with h | h | h
  · exact ⟨fun _ => Rat.le_of_lt h, fun _ => by have := sgq_lt h; omega⟩
  · exact ⟨fun _ => by rw [h]; exact Rat.le_refl, fun _ => by have := sgq_eq h; omega⟩
  · exact ⟨fun h2 => by have := sgq_gt h; omega, fun h2 => absurd h (Rat.not_lt.2 h2)⟩

theorem r11_Valid1 {D : List Int} {L : List (List Int)} {ts : List (Int × Int)} {a b : Int} {k : Nat} (hk : k ≤ 16777216) (hLl : L.length ≤ 1048576) (hDl : D.length ≤ 1048576) (htl : ts.length ≤ 1048576) (hG : ¬ GoodP D L) : Fn Tryz.prog 21 [T.Tr D L ts a b k] [] [] [] (T.c (.bool false)) := by
  refine fn_of Tryz.func21 rfl (by show 1 ≤ 55; decide) fun cx hcx => ?_
  refine tri_sub (sl 0 rfl sn) en ?_
  refine tri_seq ?_
  refine tri_reg mixed hcx ?_ _ _
  refine bxs 10 rfl ?_
  refine asg rfl ?_
  refine ⟨by kernel_rfl, ?_⟩
  refine nx (sl 1 rfl sn) (el 10 rfl en) ?_
  refine tri_seq ?_
  refine tri_seq ?_
  refine tri_reg mixed hcx ?_ _ _
  refine fa rfl fTrG 0 ?_
  refine ld rfl rfl tyG rfl ?_
  refine ca rfl (h := r05_Good (q := false) (by simp [hG]) (by omega) (by omega) (by omega)) (hn := ?_)
  refine nt rfl _ rfl ?_
  refine mv rfl ?_
  refine j_off rfl rfl rfl rfl ?_
  refine j_off rfl rfl rfl rfl ?_
  refine j_off rfl rfl rfl rfl ?_
  refine j_off rfl rfl rfl rfl ?_
  refine j_off rfl rfl rfl rfl ?_
  refine pk rfl rfl ?_
  refine mv rfl ?_
  refine j_off rfl rfl rfl rfl ?_
  refine j_off rfl rfl rfl rfl ?_
  refine j_off rfl rfl rfl rfl ?_
  refine j_off rfl rfl rfl rfl ?_
  refine j_off rfl rfl rfl rfl ?_
  refine j_ofu rfl rfl rfl ?_
  refine j_ofu rfl rfl rfl ?_
  refine j_ofu rfl rfl rfl ?_
  refine j_ofu rfl rfl rfl ?_
  refine j_ofu rfl rfl rfl ?_
  refine j_ofu rfl rfl rfl ?_
  refine j_ofu rfl rfl rfl ?_
  refine j_ofu rfl rfl rfl ?_
  refine j_off rfl rfl rfl rfl ?_
  refine pk rfl rfl ?_
  refine ⟨by kernel_rfl, ?_⟩
  refine nx (sl 1 rfl (sl 30 rfl sn)) (el 10 rfl en) ?_
  refine tri_true rfl rfl ?_
  refine tri_seq ?_
  refine tri_reg mixed hcx ?_ _ _
  refine asg rfl ?_
  refine ⟨by kernel_rfl, ?_⟩
  refine nx (sl 2 rfl sn) (el 10 rfl en) ?_
  refine tri_ret ?_
  repeat (first | refine pn_thenr ?_ | refine pn_blkr ?_)
  exact ret1 hcx rfl (rv_tmp rfl) (.refl _) en

theorem r11_Valid2 {D : List Int} {L : List (List Int)} {ts : List (Int × Int)} {a b : Int} {k : Nat} (hk : k ≤ 16777216) (hLl : L.length ≤ 1048576) (hDl : D.length ≤ 1048576) (htl : ts.length ≤ 1048576) (hG : GoodP D L) (hn : 12 < L.length) : Fn Tryz.prog 21 [T.Tr D L ts a b k] [] [] [] (T.c (.bool false)) := by
  refine fn_of Tryz.func21 rfl (by show 1 ≤ 55; decide) fun cx hcx => ?_
  refine tri_sub (sl 0 rfl sn) en ?_
  refine tri_seq ?_
  refine tri_reg mixed hcx ?_ _ _
  refine bxs 10 rfl ?_
  refine asg rfl ?_
  refine ⟨by kernel_rfl, ?_⟩
  refine nx (sl 1 rfl sn) (el 10 rfl en) ?_
  refine tri_seq ?_
  refine tri_seq ?_
  refine tri_reg mixed hcx ?_ _ _
  refine fa rfl fTrG 0 ?_
  refine ld rfl rfl tyG rfl ?_
  refine ca rfl (h := r05_Good (q := true) (by simp [hG]) (by omega) (by omega) (by omega)) (hn := ?_)
  refine nt rfl _ rfl ?_
  refine mv rfl ?_
  refine fa rfl fTrG 0 ?_ (hg := gd1)
  refine fa rfl fL 1 ?_ (hg := gd1)
  refine ld rfl rfl tyZss rfl ?_ (hg := gd1)
  refine ln slZss rfl ?_ (hg := gd1)
  refine cgt rfl rfl (decide_eq_true (by omega)) ?_ (hg := gd1)
  refine pk rfl rfl ?_
  refine mv rfl ?_
  refine j_off rfl rfl rfl rfl ?_
  refine j_off rfl rfl rfl rfl ?_
  refine j_off rfl rfl rfl rfl ?_
  refine j_off rfl rfl rfl rfl ?_
  refine j_off rfl rfl rfl rfl ?_
  refine j_ofu rfl rfl rfl ?_
  refine j_ofu rfl rfl rfl ?_
  refine j_ofu rfl rfl rfl ?_
  refine j_ofu rfl rfl rfl ?_
  refine j_ofu rfl rfl rfl ?_
  refine j_ofu rfl rfl rfl ?_
  refine j_ofu rfl rfl rfl ?_
  refine j_ofu rfl rfl rfl ?_
  refine j_off rfl rfl rfl rfl ?_
  refine pk rfl rfl ?_
  refine ⟨by kernel_rfl, ?_⟩
  refine nx (sl 1 rfl (sl 30 rfl sn)) (el 10 rfl en) ?_
  refine tri_true rfl rfl ?_
  refine tri_seq ?_
  refine tri_reg mixed hcx ?_ _ _
  refine asg rfl ?_
  refine ⟨by kernel_rfl, ?_⟩
  refine nx (sl 2 rfl sn) (el 10 rfl en) ?_
  refine tri_ret ?_
  repeat (first | refine pn_thenr ?_ | refine pn_blkr ?_)
  exact ret1 hcx rfl (rv_tmp rfl) (.refl _) en

theorem r11_Valid3 {D : List Int} {L : List (List Int)} {ts : List (Int × Int)} {a b : Int} {k : Nat} (hk : k ≤ 16777216) (hLl : L.length ≤ 1048576) (hDl : D.length ≤ 1048576) (htl : ts.length ≤ 1048576) (hG : GoodP D L) (hn : L.length ≤ 12) (h1 : ts.length ≠ 0) (h2 : ts.length ≠ L.length) : Fn Tryz.prog 21 [T.Tr D L ts a b k] [] [] [] (T.c (.bool false)) := by
  refine fn_of Tryz.func21 rfl (by show 1 ≤ 55; decide) fun cx hcx => ?_
  refine tri_sub (sl 0 rfl sn) en ?_
  refine tri_seq ?_
  refine tri_reg mixed hcx ?_ _ _
  refine bxs 10 rfl ?_
  refine asg rfl ?_
  refine ⟨by kernel_rfl, ?_⟩
  refine nx (sl 1 rfl sn) (el 10 rfl en) ?_
  refine tri_seq ?_
  refine tri_seq ?_
  refine tri_reg mixed hcx ?_ _ _
  refine fa rfl fTrG 0 ?_
  refine ld rfl rfl tyG rfl ?_
  refine ca rfl (h := r05_Good (q := true) (by simp [hG]) (by omega) (by omega) (by omega)) (hn := ?_)
  refine nt rfl _ rfl ?_
  refine mv rfl ?_
  refine fa rfl fTrG 0 ?_ (hg := gd1)
  refine fa rfl fL 1 ?_ (hg := gd1)
  refine ld rfl rfl tyZss rfl ?_ (hg := gd1)
  refine ln slZss rfl ?_ (hg := gd1)
  refine cgt rfl rfl (decide_eq_false (by omega)) ?_ (hg := gd1)
  refine pk rfl rfl ?_
  refine mv rfl ?_
  refine fa rfl fTrT 2 ?_ (hg := gd1)
  refine ld rfl rfl tyQs rfl ?_ (hg := gd1)
  refine ln slQs rfl ?_ (hg := gd1)
  refine cne rfl rfl (decide_eq_true (by omega)) ?_ (hg := gd1)
  refine mv rfl ?_ (hg := gd1)
  refine fa rfl fTrT 2 ?_ (hg := gd1)
  refine ld rfl rfl tyQs rfl ?_ (hg := gd1)
  refine ln slQs rfl ?_ (hg := gd1)
  refine fa rfl fTrG 0 ?_ (hg := gd1)
  refine fa rfl fL 1 ?_ (hg := gd1)
  refine ld rfl rfl tyZss rfl ?_ (hg := gd1)
  refine ln slZss rfl ?_ (hg := gd1)
  refine cne rfl rfl (decide_eq_true (by omega)) ?_ (hg := gd1)
  refine pk rfl rfl ?_ (hg := gd1)
  refine pk rfl rfl ?_
  refine ⟨by kernel_rfl, ?_⟩
  refine nx (sl 1 rfl (sl 30 rfl sn)) (el 10 rfl en) ?_
  refine tri_true rfl rfl ?_
  refine tri_seq ?_
  refine tri_reg mixed hcx ?_ _ _
  refine asg rfl ?_
  refine ⟨by kernel_rfl, ?_⟩
  refine nx (sl 2 rfl sn) (el 10 rfl en) ?_
  refine tri_ret ?_
  repeat (first | refine pn_thenr ?_ | refine pn_blkr ?_)
  exact ret1 hcx rfl (rv_tmp rfl) (.refl _) en

theorem r11_Valid4 {D : List Int} {L : List (List Int)} {ts : List (Int × Int)} {a b : Int} {k : Nat} (hk : k ≤ 16777216) (hLl : L.length ≤ 1048576) (hDl : D.length ≤ 1048576) (htl : ts.length ≤ 1048576) (hG : GoodP D L) (hn : L.length ≤ 12) (ht : ts.length = 0 ∨ ts.length = L.length) {w : Nat} (hw : w < ts.length) (hw1 : ¬ 0 < (ts.getD w (0, 0)).2) (hw2 : ∀ i, i < w → 0 < (ts.getD i (0, 0)).2) : Fn Tryz.prog 21 [T.Tr D L ts a b k] [] [] [] (T.c (.bool false)) := by
  refine fn_of Tryz.func21 rfl (by show 1 ≤ 55; decide) fun cx hcx => ?_
  refine tri_sub (sl 0 rfl sn) en ?_
  refine tri_seq ?_
  refine tri_reg mixed hcx ?_ _ _
  refine bxs 10 rfl ?_
  refine asg rfl ?_
  refine ⟨by kernel_rfl, ?_⟩
  refine nx (sl 1 rfl sn) (el 10 rfl en) ?_
  refine tri_seq ?_
  refine tri_seq ?_
  by_cases htz : ts.length = 0
  · refine tri_reg mixed hcx ?_ _ _
    refine fa rfl fTrG 0 ?_
    refine ld rfl rfl tyG rfl ?_
    refine ca rfl (h := r05_Good (q := true) (by simp [hG]) (by omega) (by omega) (by omega)) (hn := ?_)
    refine nt rfl _ rfl ?_
    refine mv rfl ?_
    refine fa rfl fTrG 0 ?_ (hg := gd1)
    refine fa rfl fL 1 ?_ (hg := gd1)
    refine ld rfl rfl tyZss rfl ?_ (hg := gd1)
    refine ln slZss rfl ?_ (hg := gd1)
    refine cgt rfl rfl (decide_eq_false (by omega)) ?_ (hg := gd1)
    refine pk rfl rfl ?_
    refine mv rfl ?_
    refine fa rfl fTrT 2 ?_ (hg := gd1)
    refine ld rfl rfl tyQs rfl ?_ (hg := gd1)
    refine ln slQs rfl ?_ (hg := gd1)
    refine cne rfl rfl (decide_eq_false (by omega)) ?_ (hg := gd1)
    refine mv rfl ?_ (hg := gd1)
    refine j_off rfl rfl rfl rfl ?_
    refine j_off rfl rfl rfl rfl ?_
    refine j_off rfl rfl rfl rfl ?_
    refine j_off rfl rfl rfl rfl ?_
    refine j_off rfl rfl rfl rfl ?_
    refine j_off rfl rfl rfl rfl ?_
    refine j_off rfl rfl rfl rfl ?_
    refine j_off rfl rfl rfl rfl ?_
    refine pk rfl rfl ?_ (hg := gd1)
    refine pk rfl rfl ?_
    refine ⟨by kernel_rfl, ?_⟩
    refine nx (sl 1 rfl (sl 30 rfl sn)) (el 10 rfl en) ?_
    refine tri_false rfl rfl ?_
    refine tri_skip ?_
    refine nx (sl 1 rfl sn) (el 10 rfl en) ?_
    refine tri_seq ?_
    refine tri_seq ?_
    refine tri_reg mixed hcx ?_ _ _
    refine asg rfl ?_
    refine ⟨by kernel_rfl, ?_⟩
    refine nx (sl 1 rfl (sl 3 rfl sn)) (el 10 rfl en) ?_
    refine tri_block ?_
    refine tri_loop (ι := Nat) (fun i => [(1, T.p 10 0), (3, T.c (.int .i64 (i : Int)))]) (fun i => [(10, some (Ent.box 39 [T.l (cZi k) D, T.l (cL (cZi k)) L, T.l (cQi k) ts, T.Zi a k, T.Zi b k]))]) (fun i => ts.length - i) (fun i => (i ≤ w)) 0 (Nat.zero_le _) (sl 1 rfl (sl 3 rfl sn)) (el 10 rfl en) ?_
    rintro i hi
    refine tri_sub (sl 1 rfl (sl 3 rfl sn)) (el 10 rfl en) ?_
    refine tri_seq ?_
    refine tri_seq ?_
    refine tri_reg mixed hcx ?_ _ _
    refine mv rfl ?_
    refine fa rfl fTrT 2 ?_
    refine ld rfl rfl tyQs rfl ?_
    refine ln slQs rfl ?_
    refine clt rfl rfl (decide_eq_true (by omega)) ?_
    refine ⟨by kernel_rfl, ?_⟩
    refine nx (sl 1 rfl (sl 3 rfl (sl 35 rfl sn))) (el 10 rfl en) ?_
    refine tri_true rfl rfl ?_
    refine tri_skip ?_
    refine nx (sl 1 rfl (sl 3 rfl sn)) (el 10 rfl en) ?_
    refine tri_seq ?_
    refine tri_block ?_
    refine tri_seq ?_
    rcases Nat.lt_or_eq_of_le hi with hlt | heq
    · have hp : 0 < (ts.getD i (cQi k).dflt).2 := hw2 i hlt
      refine tri_reg mixed hcx ?_ _ _
      refine fa rfl fTrT 2 ?_
      refine ld rfl rfl tyQs rfl ?_
      refine mv rfl ?_
      refine ix rfl rfl slQs ⟨rfl, by omega⟩ ?_
      refine lf rfl tyQ ?_
      refine ca rfl (h := r03_ValidG (a := (ts.getD i (cQi k).dflt).1) (b := (ts.getD i (cQi k).dflt).2) (k := k) (q := true) (iff_of_true rfl hp) (by omega)) (hn := ?_)
      refine nt rfl _ rfl ?_
      refine ⟨by kernel_rfl, ?_⟩
      refine nx (sl 1 rfl (sl 3 rfl (sl 44 rfl sn))) (el 10 rfl en) ?_
      refine tri_false rfl rfl ?_
      refine tri_skip ?_
      refine pn_blk ?_
      refine nx (sl 1 rfl (sl 3 rfl sn)) (el 10 rfl en) ?_
      refine tri_reg mixed hcx ?_ _ _
      refine mv rfl ?_
      refine ad (((i + 1 : Nat) : Int)) rfl rfl rfl (by omega) ?_
      refine asg rfl ?_
      refine ⟨by kernel_rfl, ?_⟩
      exact pn_back (i + 1) (by first | omega | (dsimp only; omega)) (by omega) (sl 1 rfl (sl 3 rfl sn)) (el 10 rfl en)
    · have hp : ¬ 0 < (ts.getD i (cQi k).dflt).2 := by rw [heq]; exact hw1
      refine tri_reg mixed hcx ?_ _ _
      refine fa rfl fTrT 2 ?_
      refine ld rfl rfl tyQs rfl ?_
      refine mv rfl ?_
      refine ix rfl rfl slQs ⟨rfl, by omega⟩ ?_
      refine lf rfl tyQ ?_
      refine ca rfl (h := r03_ValidG (a := (ts.getD i (cQi k).dflt).1) (b := (ts.getD i (cQi k).dflt).2) (k := k) (q := false) (iff_of_false Bool.false_ne_true hp) (by omega)) (hn := ?_)
      refine nt rfl _ rfl ?_
      refine ⟨by kernel_rfl, ?_⟩
      refine nx (sl 1 rfl (sl 3 rfl (sl 44 rfl sn))) (el 10 rfl en) ?_
      refine tri_true rfl rfl ?_
      refine tri_seq ?_
      refine tri_reg mixed hcx ?_ _ _
      refine asg rfl ?_
      refine ⟨by kernel_rfl, ?_⟩
      refine nx (sl 2 rfl sn) (el 10 rfl en) ?_
      refine tri_ret ?_
      repeat (first | refine pn_thenr ?_ | refine pn_blkr ?_)
      exact ret1 hcx rfl (rv_tmp rfl) (.refl _) en
  · have htn : ts.length = L.length := by rcases ht with h | h <;> omega
    refine tri_reg mixed hcx ?_ _ _
    refine fa rfl fTrG 0 ?_
    refine ld rfl rfl tyG rfl ?_
    refine ca rfl (h := r05_Good (q := true) (by simp [hG]) (by omega) (by omega) (by omega)) (hn := ?_)
    refine nt rfl _ rfl ?_
    refine mv rfl ?_
    refine fa rfl fTrG 0 ?_ (hg := gd1)
    refine fa rfl fL 1 ?_ (hg := gd1)
    refine ld rfl rfl tyZss rfl ?_ (hg := gd1)
    refine ln slZss rfl ?_ (hg := gd1)
    refine cgt rfl rfl (decide_eq_false (by omega)) ?_ (hg := gd1)
    refine pk rfl rfl ?_
    refine mv rfl ?_
    refine fa rfl fTrT 2 ?_ (hg := gd1)
    refine ld rfl rfl tyQs rfl ?_ (hg := gd1)
    refine ln slQs rfl ?_ (hg := gd1)
    refine cne rfl rfl (decide_eq_true (by omega)) ?_ (hg := gd1)
    refine mv rfl ?_ (hg := gd1)
    refine fa rfl fTrT 2 ?_ (hg := gd1)
    refine ld rfl rfl tyQs rfl ?_ (hg := gd1)
    refine ln slQs rfl ?_ (hg := gd1)
    refine fa rfl fTrG 0 ?_ (hg := gd1)
    refine fa rfl fL 1 ?_ (hg := gd1)
    refine ld rfl rfl tyZss rfl ?_ (hg := gd1)
    refine ln slZss rfl ?_ (hg := gd1)
    refine cne rfl rfl (decide_eq_false (by omega)) ?_ (hg := gd1)
    refine pk rfl rfl ?_ (hg := gd1)
    refine pk rfl rfl ?_
    refine ⟨by kernel_rfl, ?_⟩
    refine nx (sl 1 rfl (sl 30 rfl sn)) (el 10 rfl en) ?_
    refine tri_false rfl rfl ?_
    refine tri_skip ?_
    refine nx (sl 1 rfl sn) (el 10 rfl en) ?_
    refine tri_seq ?_
    refine tri_seq ?_
    refine tri_reg mixed hcx ?_ _ _
    refine asg rfl ?_
    refine ⟨by kernel_rfl, ?_⟩
    refine nx (sl 1 rfl (sl 3 rfl sn)) (el 10 rfl en) ?_
    refine tri_block ?_
    refine tri_loop (ι := Nat) (fun i => [(1, T.p 10 0), (3, T.c (.int .i64 (i : Int)))]) (fun i => [(10, some (Ent.box 39 [T.l (cZi k) D, T.l (cL (cZi k)) L, T.l (cQi k) ts, T.Zi a k, T.Zi b k]))]) (fun i => ts.length - i) (fun i => (i ≤ w)) 0 (Nat.zero_le _) (sl 1 rfl (sl 3 rfl sn)) (el 10 rfl en) ?_
    rintro i hi
    refine tri_sub (sl 1 rfl (sl 3 rfl sn)) (el 10 rfl en) ?_
    refine tri_seq ?_
    refine tri_seq ?_
    refine tri_reg mixed hcx ?_ _ _
    refine mv rfl ?_
    refine fa rfl fTrT 2 ?_
    refine ld rfl rfl tyQs rfl ?_
    refine ln slQs rfl ?_
    refine clt rfl rfl (decide_eq_true (by omega)) ?_
    refine ⟨by kernel_rfl, ?_⟩
    refine nx (sl 1 rfl (sl 3 rfl (sl 35 rfl sn))) (el 10 rfl en) ?_
    refine tri_true rfl rfl ?_
    refine tri_skip ?_
    refine nx (sl 1 rfl (sl 3 rfl sn)) (el 10 rfl en) ?_
    refine tri_seq ?_
    refine tri_block ?_
    refine tri_seq ?_
    rcases Nat.lt_or_eq_of_le hi with hlt | heq
    · have hp : 0 < (ts.getD i (cQi k).dflt).2 := hw2 i hlt
      refine tri_reg mixed hcx ?_ _ _
      refine fa rfl fTrT 2 ?_
      refine ld rfl rfl tyQs rfl ?_
      refine mv rfl ?_
      refine ix rfl rfl slQs ⟨rfl, by omega⟩ ?_
      refine lf rfl tyQ ?_
      refine ca rfl (h := r03_ValidG (a := (ts.getD i (cQi k).dflt).1) (b := (ts.getD i (cQi k).dflt).2) (k := k) (q := true) (iff_of_true rfl hp) (by omega)) (hn := ?_)
      refine nt rfl _ rfl ?_
      refine ⟨by kernel_rfl, ?_⟩
      refine nx (sl 1 rfl (sl 3 rfl (sl 44 rfl sn))) (el 10 rfl en) ?_
      refine tri_false rfl rfl ?_
      refine tri_skip ?_
      refine pn_blk ?_
      refine nx (sl 1 rfl (sl 3 rfl sn)) (el 10 rfl en) ?_
      refine tri_reg mixed hcx ?_ _ _
      refine mv rfl ?_
      refine ad (((i + 1 : Nat) : Int)) rfl rfl rfl (by omega) ?_
      refine asg rfl ?_
      refine ⟨by kernel_rfl, ?_⟩
      exact pn_back (i + 1) (by first | omega | (dsimp only; omega)) (by omega) (sl 1 rfl (sl 3 rfl sn)) (el 10 rfl en)
    · have hp : ¬ 0 < (ts.getD i (cQi k).dflt).2 := by rw [heq]; exact hw1
      refine tri_reg mixed hcx ?_ _ _
      refine fa rfl fTrT 2 ?_
      refine ld rfl rfl tyQs rfl ?_
      refine mv rfl ?_
      refine ix rfl rfl slQs ⟨rfl, by omega⟩ ?_
      refine lf rfl tyQ ?_
      refine ca rfl (h := r03_ValidG (a := (ts.getD i (cQi k).dflt).1) (b := (ts.getD i (cQi k).dflt).2) (k := k) (q := false) (iff_of_false Bool.false_ne_true hp) (by omega)) (hn := ?_)
      refine nt rfl _ rfl ?_
      refine ⟨by kernel_rfl, ?_⟩
      refine nx (sl 1 rfl (sl 3 rfl (sl 44 rfl sn))) (el 10 rfl en) ?_
      refine tri_true rfl rfl ?_
      refine tri_seq ?_
      refine tri_reg mixed hcx ?_ _ _
      refine asg rfl ?_
      refine ⟨by kernel_rfl, ?_⟩
      refine nx (sl 2 rfl sn) (el 10 rfl en) ?_
      refine tri_ret ?_
      repeat (first | refine pn_thenr ?_ | refine pn_blkr ?_)
      exact ret1 hcx rfl (rv_tmp rfl) (.refl _) en

theorem r11_Valid5 {D : List Int} {L : List (List Int)} {ts : List (Int × Int)} {a b : Int} {k : Nat} (hk : k ≤ 16777216) (hLl : L.length ≤ 1048576) (hDl : D.length ≤ 1048576) (htl : ts.length ≤ 1048576) (hG : GoodP D L) (hn : L.length ≤ 12) (ht : ts.length = 0 ∨ ts.length = L.length) (hd : ∀ i, i < ts.length → 0 < (ts.getD i (0, 0)).2) (hb : ¬ 0 < b) : Fn Tryz.prog 21 [T.Tr D L ts a b k] [] [] [] (T.c (.bool false)) := by
  refine fn_of Tryz.func21 rfl (by show 1 ≤ 55; decide) fun cx hcx => ?_
  refine tri_sub (sl 0 rfl sn) en ?_
  refine tri_seq ?_
  refine tri_reg mixed hcx ?_ _ _
  refine bxs 10 rfl ?_
  refine asg rfl ?_
  refine ⟨by kernel_rfl, ?_⟩
  refine nx (sl 1 rfl sn) (el 10 rfl en) ?_
  refine tri_seq ?_
  refine tri_seq ?_
  by_cases htz : ts.length = 0
  · refine tri_reg mixed hcx ?_ _ _
    refine fa rfl fTrG 0 ?_
    refine ld rfl rfl tyG rfl ?_
    refine ca rfl (h := r05_Good (q := true) (by simp [hG]) (by omega) (by omega) (by omega)) (hn := ?_)
    refine nt rfl _ rfl ?_
    refine mv rfl ?_
    refine fa rfl fTrG 0 ?_ (hg := gd1)
    refine fa rfl fL 1 ?_ (hg := gd1)
    refine ld rfl rfl tyZss rfl ?_ (hg := gd1)
    refine ln slZss rfl ?_ (hg := gd1)
    refine cgt rfl rfl (decide_eq_false (by omega)) ?_ (hg := gd1)
    refine pk rfl rfl ?_
    refine mv rfl ?_
    refine fa rfl fTrT 2 ?_ (hg := gd1)
    refine ld rfl rfl tyQs rfl ?_ (hg := gd1)
    refine ln slQs rfl ?_ (hg := gd1)
    refine cne rfl rfl (decide_eq_false (by omega)) ?_ (hg := gd1)
    refine mv rfl ?_ (hg := gd1)
    refine j_off rfl rfl rfl rfl ?_
    refine j_off rfl rfl rfl rfl ?_
    refine j_off rfl rfl rfl rfl ?_
    refine j_off rfl rfl rfl rfl ?_
    refine j_off rfl rfl rfl rfl ?_
    refine j_off rfl rfl rfl rfl ?_
    refine j_off rfl rfl rfl rfl ?_
    refine j_off rfl rfl rfl rfl ?_
    refine pk rfl rfl ?_ (hg := gd1)
    refine pk rfl rfl ?_
    refine ⟨by kernel_rfl, ?_⟩
    refine nx (sl 1 rfl (sl 30 rfl sn)) (el 10 rfl en) ?_
    refine tri_false rfl rfl ?_
    refine tri_skip ?_
    refine nx (sl 1 rfl sn) (el 10 rfl en) ?_
    refine tri_seq ?_
    refine tri_seq ?_
    refine tri_reg mixed hcx ?_ _ _
    refine asg rfl ?_
    refine ⟨by kernel_rfl, ?_⟩
    refine nx (sl 1 rfl (sl 3 rfl sn)) (el 10 rfl en) ?_
    refine tri_block ?_
    refine tri_loop (ι := Nat) (fun i => [(1, T.p 10 0), (3, T.c (.int .i64 (i : Int)))]) (fun i => [(10, some (Ent.box 39 [T.l (cZi k) D, T.l (cL (cZi k)) L, T.l (cQi k) ts, T.Zi a k, T.Zi b k]))]) (fun i => ts.length - i) (fun i => (i ≤ ts.length)) 0 (Nat.zero_le _) (sl 1 rfl (sl 3 rfl sn)) (el 10 rfl en) ?_
    rintro i hi
    refine tri_sub (sl 1 rfl (sl 3 rfl sn)) (el 10 rfl en) ?_
    refine tri_seq ?_
    refine tri_seq ?_
    refine tri_reg mixed hcx ?_ _ _
    refine mv rfl ?_
    refine fa rfl fTrT 2 ?_
    refine ld rfl rfl tyQs rfl ?_
    refine ln slQs rfl ?_
    refine clt rfl rfl rfl ?_
    refine ⟨by kernel_rfl, ?_⟩
    refine nx (sl 1 rfl (sl 3 rfl (sl 35 rfl sn))) (el 10 rfl en) ?_
    refine tri_if rfl (fun hc => ?_) (fun hc => ?_)
    · have hp : 0 < (ts.getD i (cQi k).dflt).2 := hd i (by omega)
      refine tri_skip ?_
      refine nx (sl 1 rfl (sl 3 rfl sn)) (el 10 rfl en) ?_
      refine tri_seq ?_
      refine tri_block ?_
      refine tri_seq ?_
      refine tri_reg mixed hcx ?_ _ _
      refine fa rfl fTrT 2 ?_
      refine ld rfl rfl tyQs rfl ?_
      refine mv rfl ?_
      refine ix rfl rfl slQs ⟨rfl, by omega⟩ ?_
      refine lf rfl tyQ ?_
      refine ca rfl (h := r03_ValidG (a := (ts.getD i (cQi k).dflt).1) (b := (ts.getD i (cQi k).dflt).2) (k := k) (q := true) (iff_of_true rfl hp) (by omega)) (hn := ?_)
      refine nt rfl _ rfl ?_
      refine ⟨by kernel_rfl, ?_⟩
      refine nx (sl 1 rfl (sl 3 rfl (sl 44 rfl sn))) (el 10 rfl en) ?_
      refine tri_false rfl rfl ?_
      refine tri_skip ?_
      refine pn_blk ?_
      refine nx (sl 1 rfl (sl 3 rfl sn)) (el 10 rfl en) ?_
      refine tri_reg mixed hcx ?_ _ _
      refine mv rfl ?_
      refine ad (((i + 1 : Nat) : Int)) rfl rfl rfl (by omega) ?_
      refine asg rfl ?_
      refine ⟨by kernel_rfl, ?_⟩
      exact pn_back (i + 1) (by first | omega | (dsimp only; omega)) (by omega) (sl 1 rfl (sl 3 rfl sn)) (el 10 rfl en)
    · refine tri_exit ?_
      repeat (first | refine pn_then ?_ | refine pn_oth (by decide) ?_)
      refine pn_ex ?_
      refine nx (sl 1 rfl sn) (el 10 rfl en) ?_
      refine tri_seq ?_
      refine tri_reg mixed hcx ?_ _ _
      refine fa rfl fTrR 3 ?_
      refine ld rfl rfl tyQ rfl ?_
      refine ca rfl (h := r03_ValidG (q := false) (by simp [hb]) (by omega)) (hn := ?_)
      refine mv rfl ?_
      refine j_off rfl rfl rfl rfl ?_
      refine j_off rfl rfl rfl rfl ?_
      refine j_off rfl rfl rfl rfl ?_
      refine j_off rfl rfl rfl rfl ?_
      refine j_off rfl rfl rfl rfl ?_
      refine pk rfl rfl ?_
      refine asg rfl ?_
      refine ⟨by kernel_rfl, ?_⟩
      refine nx (sl 2 rfl sn) (el 10 rfl en) ?_
      refine tri_ret ?_
      repeat (first | refine pn_thenr ?_ | refine pn_blkr ?_)
      exact ret1 hcx rfl (rv_tmp rfl) (.refl _) en
  · have htn : ts.length = L.length := by rcases ht with h | h <;> omega
    refine tri_reg mixed hcx ?_ _ _
    refine fa rfl fTrG 0 ?_
    refine ld rfl rfl tyG rfl ?_
    refine ca rfl (h := r05_Good (q := true) (by simp [hG]) (by omega) (by omega) (by omega)) (hn := ?_)
    refine nt rfl _ rfl ?_
    refine mv rfl ?_
    refine fa rfl fTrG 0 ?_ (hg := gd1)
    refine fa rfl fL 1 ?_ (hg := gd1)
    refine ld rfl rfl tyZss rfl ?_ (hg := gd1)
    refine ln slZss rfl ?_ (hg := gd1)
    refine cgt rfl rfl (decide_eq_false (by omega)) ?_ (hg := gd1)
    refine pk rfl rfl ?_
    refine mv rfl ?_
    refine fa rfl fTrT 2 ?_ (hg := gd1)
    refine ld rfl rfl tyQs rfl ?_ (hg := gd1)
    refine ln slQs rfl ?_ (hg := gd1)
    refine cne rfl rfl (decide_eq_true (by omega)) ?_ (hg := gd1)
    refine mv rfl ?_ (hg := gd1)
    refine fa rfl fTrT 2 ?_ (hg := gd1)
    refine ld rfl rfl tyQs rfl ?_ (hg := gd1)
    refine ln slQs rfl ?_ (hg := gd1)
    refine fa rfl fTrG 0 ?_ (hg := gd1)
    refine fa rfl fL 1 ?_ (hg := gd1)
    refine ld rfl rfl tyZss rfl ?_ (hg := gd1)
    refine ln slZss rfl ?_ (hg := gd1)
    refine cne rfl rfl (decide_eq_false (by omega)) ?_ (hg := gd1)
    refine pk rfl rfl ?_ (hg := gd1)
    refine pk rfl rfl ?_
    refine ⟨by kernel_rfl, ?_⟩
    refine nx (sl 1 rfl (sl 30 rfl sn)) (el 10 rfl en) ?_
    refine tri_false rfl rfl ?_
    refine tri_skip ?_
    refine nx (sl 1 rfl sn) (el 10 rfl en) ?_
    refine tri_seq ?_
    refine tri_seq ?_
    refine tri_reg mixed hcx ?_ _ _
    refine asg rfl ?_
    refine ⟨by kernel_rfl, ?_⟩
    refine nx (sl 1 rfl (sl 3 rfl sn)) (el 10 rfl en) ?_
    refine tri_block ?_
    refine tri_loop (ι := Nat) (fun i => [(1, T.p 10 0), (3, T.c (.int .i64 (i : Int)))]) (fun i => [(10, some (Ent.box 39 [T.l (cZi k) D, T.l (cL (cZi k)) L, T.l (cQi k) ts, T.Zi a k, T.Zi b k]))]) (fun i => ts.length - i) (fun i => (i ≤ ts.length)) 0 (Nat.zero_le _) (sl 1 rfl (sl 3 rfl sn)) (el 10 rfl en) ?_
    rintro i hi
    refine tri_sub (sl 1 rfl (sl 3 rfl sn)) (el 10 rfl en) ?_
    refine tri_seq ?_
    refine tri_seq ?_
    refine tri_reg mixed hcx ?_ _ _
    refine mv rfl ?_
    refine fa rfl fTrT 2 ?_
    refine ld rfl rfl tyQs rfl ?_
    refine ln slQs rfl ?_
    refine clt rfl rfl rfl ?_
    refine ⟨by kernel_rfl, ?_⟩
    refine nx (sl 1 rfl (sl 3 rfl (sl 35 rfl sn))) (el 10 rfl en) ?_
    refine tri_if rfl (fun hc => ?_) (fun hc => ?_)
    · have hp : 0 < (ts.getD i (cQi k).dflt).2 := hd i (by omega)
      refine tri_skip ?_
      refine nx (sl 1 rfl (sl 3 rfl sn)) (el 10 rfl en) ?_
      refine tri_seq ?_
      refine tri_block ?_
      refine tri_seq ?_
      refine tri_reg mixed hcx ?_ _ _
      refine fa rfl fTrT 2 ?_
      refine ld rfl rfl tyQs rfl ?_
      refine mv rfl ?_
      refine ix rfl rfl slQs ⟨rfl, by omega⟩ ?_
      refine lf rfl tyQ ?_
      refine ca rfl (h := r03_ValidG (a := (ts.getD i (cQi k).dflt).1) (b := (ts.getD i (cQi k).dflt).2) (k := k) (q := true) (iff_of_true rfl hp) (by omega)) (hn := ?_)
      refine nt rfl _ rfl ?_
      refine ⟨by kernel_rfl, ?_⟩
      refine nx (sl 1 rfl (sl 3 rfl (sl 44 rfl sn))) (el 10 rfl en) ?_
      refine tri_false rfl rfl ?_
      refine tri_skip ?_
      refine pn_blk ?_
      refine nx (sl 1 rfl (sl 3 rfl sn)) (el 10 rfl en) ?_
      refine tri_reg mixed hcx ?_ _ _
      refine mv rfl ?_
      refine ad (((i + 1 : Nat) : Int)) rfl rfl rfl (by omega) ?_
      refine asg rfl ?_
      refine ⟨by kernel_rfl, ?_⟩
      exact pn_back (i + 1) (by first | omega | (dsimp only; omega)) (by omega) (sl 1 rfl (sl 3 rfl sn)) (el 10 rfl en)
    · refine tri_exit ?_
      repeat (first | refine pn_then ?_ | refine pn_oth (by decide) ?_)
      refine pn_ex ?_
      refine nx (sl 1 rfl sn) (el 10 rfl en) ?_
      refine tri_seq ?_
      refine tri_reg mixed hcx ?_ _ _
      refine fa rfl fTrR 3 ?_
      refine ld rfl rfl tyQ rfl ?_
      refine ca rfl (h := r03_ValidG (q := false) (by simp [hb]) (by omega)) (hn := ?_)
      refine mv rfl ?_
      refine j_off rfl rfl rfl rfl ?_
      refine j_off rfl rfl rfl rfl ?_
      refine j_off rfl rfl rfl rfl ?_
      refine j_off rfl rfl rfl rfl ?_
      refine j_off rfl rfl rfl rfl ?_
      refine pk rfl rfl ?_
      refine asg rfl ?_
      refine ⟨by kernel_rfl, ?_⟩
      refine nx (sl 2 rfl sn) (el 10 rfl en) ?_
      refine tri_ret ?_
      repeat (first | refine pn_thenr ?_ | refine pn_blkr ?_)
      exact ret1 hcx rfl (rv_tmp rfl) (.refl _) en

theorem r11_Valid6 {D : List Int} {L : List (List Int)} {ts : List (Int × Int)} {a b : Int} {k : Nat} (hk : k ≤ 16777216) (hLl : L.length ≤ 1048576) (hDl : D.length ≤ 1048576) (htl : ts.length ≤ 1048576) (hG : GoodP D L) (hn : L.length ≤ 12) (ht : ts.length = 0 ∨ ts.length = L.length) (hd : ∀ i, i < ts.length → 0 < (ts.getD i (0, 0)).2) (hb : 0 < b) (ha : ¬ 0 ≤ a) : Fn Tryz.prog 21 [T.Tr D L ts a b k] [] [] [] (T.c (.bool false)) := by
  refine fn_of Tryz.func21 rfl (by show 1 ≤ 55; decide) fun cx hcx => ?_
  refine tri_sub (sl 0 rfl sn) en ?_
  have hsa : sg a = -1 := sg_neg (by omega)
  refine tri_seq ?_
  refine tri_reg mixed hcx ?_ _ _
  refine bxs 10 rfl ?_
  refine asg rfl ?_
  refine ⟨by kernel_rfl, ?_⟩
  refine nx (sl 1 rfl sn) (el 10 rfl en) ?_
  refine tri_seq ?_
  refine tri_seq ?_
  by_cases htz : ts.length = 0
  · refine tri_reg mixed hcx ?_ _ _
    refine fa rfl fTrG 0 ?_
    refine ld rfl rfl tyG rfl ?_
    refine ca rfl (h := r05_Good (q := true) (by simp [hG]) (by omega) (by omega) (by omega)) (hn := ?_)
    refine nt rfl _ rfl ?_
    refine mv rfl ?_
    refine fa rfl fTrG 0 ?_ (hg := gd1)
    refine fa rfl fL 1 ?_ (hg := gd1)
    refine ld rfl rfl tyZss rfl ?_ (hg := gd1)
    refine ln slZss rfl ?_ (hg := gd1)
    refine cgt rfl rfl (decide_eq_false (by omega)) ?_ (hg := gd1)
    refine pk rfl rfl ?_
    refine mv rfl ?_
    refine fa rfl fTrT 2 ?_ (hg := gd1)
    refine ld rfl rfl tyQs rfl ?_ (hg := gd1)
    refine ln slQs rfl ?_ (hg := gd1)
    refine cne rfl rfl (decide_eq_false (by omega)) ?_ (hg := gd1)
    refine mv rfl ?_ (hg := gd1)
    refine j_off rfl rfl rfl rfl ?_
    refine j_off rfl rfl rfl rfl ?_
    refine j_off rfl rfl rfl rfl ?_
    refine j_off rfl rfl rfl rfl ?_
    refine j_off rfl rfl rfl rfl ?_
    refine j_off rfl rfl rfl rfl ?_
    refine j_off rfl rfl rfl rfl ?_
    refine j_off rfl rfl rfl rfl ?_
    refine pk rfl rfl ?_ (hg := gd1)
    refine pk rfl rfl ?_
    refine ⟨by kernel_rfl, ?_⟩
    refine nx (sl 1 rfl (sl 30 rfl sn)) (el 10 rfl en) ?_
    refine tri_false rfl rfl ?_
    refine tri_skip ?_
    refine nx (sl 1 rfl sn) (el 10 rfl en) ?_
    refine tri_seq ?_
    refine tri_seq ?_
    refine tri_reg mixed hcx ?_ _ _
    refine asg rfl ?_
    refine ⟨by kernel_rfl, ?_⟩
    refine nx (sl 1 rfl (sl 3 rfl sn)) (el 10 rfl en) ?_
    refine tri_block ?_
    refine tri_loop (ι := Nat) (fun i => [(1, T.p 10 0), (3, T.c (.int .i64 (i : Int)))]) (fun i => [(10, some (Ent.box 39 [T.l (cZi k) D, T.l (cL (cZi k)) L, T.l (cQi k) ts, T.Zi a k, T.Zi b k]))]) (fun i => ts.length - i) (fun i => (i ≤ ts.length)) 0 (Nat.zero_le _) (sl 1 rfl (sl 3 rfl sn)) (el 10 rfl en) ?_
    rintro i hi
    refine tri_sub (sl 1 rfl (sl 3 rfl sn)) (el 10 rfl en) ?_
    refine tri_seq ?_
    refine tri_seq ?_
    refine tri_reg mixed hcx ?_ _ _
    refine mv rfl ?_
    refine fa rfl fTrT 2 ?_
    refine ld rfl rfl tyQs rfl ?_
    refine ln slQs rfl ?_
    refine clt rfl rfl rfl ?_
    refine ⟨by kernel_rfl, ?_⟩
    refine nx (sl 1 rfl (sl 3 rfl (sl 35 rfl sn))) (el 10 rfl en) ?_
    refine tri_if rfl (fun hc => ?_) (fun hc => ?_)
    · have hp : 0 < (ts.getD i (cQi k).dflt).2 := hd i (by omega)
      refine tri_skip ?_
      refine nx (sl 1 rfl (sl 3 rfl sn)) (el 10 rfl en) ?_
      refine tri_seq ?_
      refine tri_block ?_
      refine tri_seq ?_
      refine tri_reg mixed hcx ?_ _ _
      refine fa rfl fTrT 2 ?_
      refine ld rfl rfl tyQs rfl ?_
      refine mv rfl ?_
      refine ix rfl rfl slQs ⟨rfl, by omega⟩ ?_
      refine lf rfl tyQ ?_
      refine ca rfl (h := r03_ValidG (a := (ts.getD i (cQi k).dflt).1) (b := (ts.getD i (cQi k).dflt).2) (k := k) (q := true) (iff_of_true rfl hp) (by omega)) (hn := ?_)
      refine nt rfl _ rfl ?_
      refine ⟨by kernel_rfl, ?_⟩
      refine nx (sl 1 rfl (sl 3 rfl (sl 44 rfl sn))) (el 10 rfl en) ?_
      refine tri_false rfl rfl ?_
      refine tri_skip ?_
      refine pn_blk ?_
      refine nx (sl 1 rfl (sl 3 rfl sn)) (el 10 rfl en) ?_
      refine tri_reg mixed hcx ?_ _ _
      refine mv rfl ?_
      refine ad (((i + 1 : Nat) : Int)) rfl rfl rfl (by omega) ?_
      refine asg rfl ?_
      refine ⟨by kernel_rfl, ?_⟩
      exact pn_back (i + 1) (by first | omega | (dsimp only; omega)) (by omega) (sl 1 rfl (sl 3 rfl sn)) (el 10 rfl en)
    · refine tri_exit ?_
      repeat (first | refine pn_then ?_ | refine pn_oth (by decide) ?_)
      refine pn_ex ?_
      refine nx (sl 1 rfl sn) (el 10 rfl en) ?_
      refine tri_seq ?_
      refine tri_reg mixed hcx ?_ _ _
      refine fa rfl fTrR 3 ?_
      refine ld rfl rfl tyQ rfl ?_
      refine ca rfl (h := r03_ValidG (q := true) (by simp [hb]) (by omega)) (hn := ?_)
      refine mv rfl ?_
      refine fa rfl fTrR 3 ?_ (hg := gd1)
      refine fa rfl fNum 3 ?_ (hg := gd1)
      refine ld rfl rfl tyZ rfl ?_ (hg := gd1)
      refine ca rfl (h := r02_Sign (by omega)) (hn := ?_) (hg := gd1)
      refine cge rfl rfl (decide_eq_false (by omega)) ?_ (hg := gd1)
      refine pk rfl rfl ?_
      refine asg rfl ?_
      refine ⟨by kernel_rfl, ?_⟩
      refine nx (sl 2 rfl sn) (el 10 rfl en) ?_
      refine tri_ret ?_
      repeat (first | refine pn_thenr ?_ | refine pn_blkr ?_)
      exact ret1 hcx rfl (rv_tmp rfl) (.refl _) en
  · have htn : ts.length = L.length := by rcases ht with h | h <;> omega
    refine tri_reg mixed hcx ?_ _ _
    refine fa rfl fTrG 0 ?_
    refine ld rfl rfl tyG rfl ?_
    refine ca rfl (h := r05_Good (q := true) (by simp [hG]) (by omega) (by omega) (by omega)) (hn := ?_)
    refine nt rfl _ rfl ?_
    refine mv rfl ?_
    refine fa rfl fTrG 0 ?_ (hg := gd1)
    refine fa rfl fL 1 ?_ (hg := gd1)
    refine ld rfl rfl tyZss rfl ?_ (hg := gd1)
    refine ln slZss rfl ?_ (hg := gd1)
    refine cgt rfl rfl (decide_eq_false (by omega)) ?_ (hg := gd1)
    refine pk rfl rfl ?_
    refine mv rfl ?_
    refine fa rfl fTrT 2 ?_ (hg := gd1)
    refine ld rfl rfl tyQs rfl ?_ (hg := gd1)
    refine ln slQs rfl ?_ (hg := gd1)
    refine cne rfl rfl (decide_eq_true (by omega)) ?_ (hg := gd1)
    refine mv rfl ?_ (hg := gd1)
    refine fa rfl fTrT 2 ?_ (hg := gd1)
    refine ld rfl rfl tyQs rfl ?_ (hg := gd1)
    refine ln slQs rfl ?_ (hg := gd1)
    refine fa rfl fTrG 0 ?_ (hg := gd1)
    refine fa rfl fL 1 ?_ (hg := gd1)
    refine ld rfl rfl tyZss rfl ?_ (hg := gd1)
    refine ln slZss rfl ?_ (hg := gd1)
    refine cne rfl rfl (decide_eq_false (by omega)) ?_ (hg := gd1)
    refine pk rfl rfl ?_ (hg := gd1)
    refine pk rfl rfl ?_
    refine ⟨by kernel_rfl, ?_⟩
    refine nx (sl 1 rfl (sl 30 rfl sn)) (el 10 rfl en) ?_
    refine tri_false rfl rfl ?_
    refine tri_skip ?_
    refine nx (sl 1 rfl sn) (el 10 rfl en) ?_
    refine tri_seq ?_
    refine tri_seq ?_
    refine tri_reg mixed hcx ?_ _ _
    refine asg rfl ?_
    refine ⟨by kernel_rfl, ?_⟩
    refine nx (sl 1 rfl (sl 3 rfl sn)) (el 10 rfl en) ?_
    refine tri_block ?_
    refine tri_loop (ι := Nat) (fun i => [(1, T.p 10 0), (3, T.c (.int .i64 (i : Int)))]) (fun i => [(10, some (Ent.box 39 [T.l (cZi k) D, T.l (cL (cZi k)) L, T.l (cQi k) ts, T.Zi a k, T.Zi b k]))]) (fun i => ts.length - i) (fun i => (i ≤ ts.length)) 0 (Nat.zero_le _) (sl 1 rfl (sl 3 rfl sn)) (el 10 rfl en) ?_
    rintro i hi
    refine tri_sub (sl 1 rfl (sl 3 rfl sn)) (el 10 rfl en) ?_
    refine tri_seq ?_
    refine tri_seq ?_
    refine tri_reg mixed hcx ?_ _ _
    refine mv rfl ?_
    refine fa rfl fTrT 2 ?_
    refine ld rfl rfl tyQs rfl ?_
    refine ln slQs rfl ?_
    refine clt rfl rfl rfl ?_
    refine ⟨by kernel_rfl, ?_⟩
    refine nx (sl 1 rfl (sl 3 rfl (sl 35 rfl sn))) (el 10 rfl en) ?_
    refine tri_if rfl (fun hc => ?_) (fun hc => ?_)
    · have hp : 0 < (ts.getD i (cQi k).dflt).2 := hd i (by omega)
      refine tri_skip ?_
      refine nx (sl 1 rfl (sl 3 rfl sn)) (el 10 rfl en) ?_
      refine tri_seq ?_
      refine tri_block ?_
      refine tri_seq ?_
      refine tri_reg mixed hcx ?_ _ _
      refine fa rfl fTrT 2 ?_
      refine ld rfl rfl tyQs rfl ?_
      refine mv rfl ?_
      refine ix rfl rfl slQs ⟨rfl, by omega⟩ ?_
      refine lf rfl tyQ ?_
      refine ca rfl (h := r03_ValidG (a := (ts.getD i (cQi k).dflt).1) (b := (ts.getD i (cQi k).dflt).2) (k := k) (q := true) (iff_of_true rfl hp) (by omega)) (hn := ?_)
      refine nt rfl _ rfl ?_
      refine ⟨by kernel_rfl, ?_⟩
      refine nx (sl 1 rfl (sl 3 rfl (sl 44 rfl sn))) (el 10 rfl en) ?_
      refine tri_false rfl rfl ?_
      refine tri_skip ?_
      refine pn_blk ?_
      refine nx (sl 1 rfl (sl 3 rfl sn)) (el 10 rfl en) ?_
      refine tri_reg mixed hcx ?_ _ _
      refine mv rfl ?_
      refine ad (((i + 1 : Nat) : Int)) rfl rfl rfl (by omega) ?_
      refine asg rfl ?_
      refine ⟨by kernel_rfl, ?_⟩
      exact pn_back (i + 1) (by first | omega | (dsimp only; omega)) (by omega) (sl 1 rfl (sl 3 rfl sn)) (el 10 rfl en)
    · refine tri_exit ?_
      repeat (first | refine pn_then ?_ | refine pn_oth (by decide) ?_)
      refine pn_ex ?_
      refine nx (sl 1 rfl sn) (el 10 rfl en) ?_
      refine tri_seq ?_
      refine tri_reg mixed hcx ?_ _ _
      refine fa rfl fTrR 3 ?_
      refine ld rfl rfl tyQ rfl ?_
      refine ca rfl (h := r03_ValidG (q := true) (by simp [hb]) (by omega)) (hn := ?_)
      refine mv rfl ?_
      refine fa rfl fTrR 3 ?_ (hg := gd1)
      refine fa rfl fNum 3 ?_ (hg := gd1)
      refine ld rfl rfl tyZ rfl ?_ (hg := gd1)
      refine ca rfl (h := r02_Sign (by omega)) (hn := ?_) (hg := gd1)
      refine cge rfl rfl (decide_eq_false (by omega)) ?_ (hg := gd1)
      refine pk rfl rfl ?_
      refine asg rfl ?_
      refine ⟨by kernel_rfl, ?_⟩
      refine nx (sl 2 rfl sn) (el 10 rfl en) ?_
      refine tri_ret ?_
      repeat (first | refine pn_thenr ?_ | refine pn_blkr ?_)
      exact ret1 hcx rfl (rv_tmp rfl) (.refl _) en

theorem r11_Valid7 {D : List Int} {L : List (List Int)} {ts : List (Int × Int)} {a b : Int} {k : Nat} (hk : k ≤ 16777216) (hLl : L.length ≤ 1048576) (hDl : D.length ≤ 1048576) (htl : ts.length ≤ 1048576) (hG : GoodP D L) (hn : L.length ≤ 12) (ht : ts.length = 0 ∨ ts.length = L.length) (hd : ∀ i, i < ts.length → 0 < (ts.getD i (0, 0)).2) (hb : 0 < b) (ha : 0 ≤ a) : Fn Tryz.prog 21 [T.Tr D L ts a b k] [] [] [] (T.c (.bool true)) := by
  refine fn_of Tryz.func21 rfl (by show 1 ≤ 55; decide) fun cx hcx => ?_
  refine tri_sub (sl 0 rfl sn) en ?_
  have hsa : 0 ≤ sg a := sg_nn ha
  refine tri_seq ?_
  refine tri_reg mixed hcx ?_ _ _
  refine bxs 10 rfl ?_
  refine asg rfl ?_
  refine ⟨by kernel_rfl, ?_⟩
  refine nx (sl 1 rfl sn) (el 10 rfl en) ?_
  refine tri_seq ?_
  refine tri_seq ?_
  by_cases htz : ts.length = 0
  · refine tri_reg mixed hcx ?_ _ _
    refine fa rfl fTrG 0 ?_
    refine ld rfl rfl tyG rfl ?_
    refine ca rfl (h := r05_Good (q := true) (by simp [hG]) (by omega) (by omega) (by omega)) (hn := ?_)
    refine nt rfl _ rfl ?_
    refine mv rfl ?_
    refine fa rfl fTrG 0 ?_ (hg := gd1)
    refine fa rfl fL 1 ?_ (hg := gd1)
    refine ld rfl rfl tyZss rfl ?_ (hg := gd1)
    refine ln slZss rfl ?_ (hg := gd1)
    refine cgt rfl rfl (decide_eq_false (by omega)) ?_ (hg := gd1)
    refine pk rfl rfl ?_
    refine mv rfl ?_
    refine fa rfl fTrT 2 ?_ (hg := gd1)
    refine ld rfl rfl tyQs rfl ?_ (hg := gd1)
    refine ln slQs rfl ?_ (hg := gd1)
    refine cne rfl rfl (decide_eq_false (by omega)) ?_ (hg := gd1)
    refine mv rfl ?_ (hg := gd1)
    refine j_off rfl rfl rfl rfl ?_
    refine j_off rfl rfl rfl rfl ?_
    refine j_off rfl rfl rfl rfl ?_
    refine j_off rfl rfl rfl rfl ?_
    refine j_off rfl rfl rfl rfl ?_
    refine j_off rfl rfl rfl rfl ?_
    refine j_off rfl rfl rfl rfl ?_
    refine j_off rfl rfl rfl rfl ?_
    refine pk rfl rfl ?_ (hg := gd1)
    refine pk rfl rfl ?_
    refine ⟨by kernel_rfl, ?_⟩
    refine nx (sl 1 rfl (sl 30 rfl sn)) (el 10 rfl en) ?_
    refine tri_false rfl rfl ?_
    refine tri_skip ?_
    refine nx (sl 1 rfl sn) (el 10 rfl en) ?_
    refine tri_seq ?_
    refine tri_seq ?_
    refine tri_reg mixed hcx ?_ _ _
    refine asg rfl ?_
    refine ⟨by kernel_rfl, ?_⟩
    refine nx (sl 1 rfl (sl 3 rfl sn)) (el 10 rfl en) ?_
    refine tri_block ?_
    refine tri_loop (ι := Nat) (fun i => [(1, T.p 10 0), (3, T.c (.int .i64 (i : Int)))]) (fun i => [(10, some (Ent.box 39 [T.l (cZi k) D, T.l (cL (cZi k)) L, T.l (cQi k) ts, T.Zi a k, T.Zi b k]))]) (fun i => ts.length - i) (fun i => (i ≤ ts.length)) 0 (Nat.zero_le _) (sl 1 rfl (sl 3 rfl sn)) (el 10 rfl en) ?_
    rintro i hi
    refine tri_sub (sl 1 rfl (sl 3 rfl sn)) (el 10 rfl en) ?_
    refine tri_seq ?_
    refine tri_seq ?_
    refine tri_reg mixed hcx ?_ _ _
    refine mv rfl ?_
    refine fa rfl fTrT 2 ?_
    refine ld rfl rfl tyQs rfl ?_
    refine ln slQs rfl ?_
    refine clt rfl rfl rfl ?_
    refine ⟨by kernel_rfl, ?_⟩
    refine nx (sl 1 rfl (sl 3 rfl (sl 35 rfl sn))) (el 10 rfl en) ?_
    refine tri_if rfl (fun hc => ?_) (fun hc => ?_)
    · have hp : 0 < (ts.getD i (cQi k).dflt).2 := hd i (by omega)
      refine tri_skip ?_
      refine nx (sl 1 rfl (sl 3 rfl sn)) (el 10 rfl en) ?_
      refine tri_seq ?_
      refine tri_block ?_
      refine tri_seq ?_
      refine tri_reg mixed hcx ?_ _ _
      refine fa rfl fTrT 2 ?_
      refine ld rfl rfl tyQs rfl ?_
      refine mv rfl ?_
      refine ix rfl rfl slQs ⟨rfl, by omega⟩ ?_
      refine lf rfl tyQ ?_
      refine ca rfl (h := r03_ValidG (a := (ts.getD i (cQi k).dflt).1) (b := (ts.getD i (cQi k).dflt).2) (k := k) (q := true) (iff_of_true rfl hp) (by omega)) (hn := ?_)
      refine nt rfl _ rfl ?_
      refine ⟨by kernel_rfl, ?_⟩
      refine nx (sl 1 rfl (sl 3 rfl (sl 44 rfl sn))) (el 10 rfl en) ?_
      refine tri_false rfl rfl ?_
      refine tri_skip ?_
      refine pn_blk ?_
      refine nx (sl 1 rfl (sl 3 rfl sn)) (el 10 rfl en) ?_
      refine tri_reg mixed hcx ?_ _ _
      refine mv rfl ?_
      refine ad (((i + 1 : Nat) : Int)) rfl rfl rfl (by omega) ?_
      refine asg rfl ?_
      refine ⟨by kernel_rfl, ?_⟩
      exact pn_back (i + 1) (by first | omega | (dsimp only; omega)) (by omega) (sl 1 rfl (sl 3 rfl sn)) (el 10 rfl en)
    · refine tri_exit ?_
      repeat (first | refine pn_then ?_ | refine pn_oth (by decide) ?_)
      refine pn_ex ?_
      refine nx (sl 1 rfl sn) (el 10 rfl en) ?_
      refine tri_seq ?_
      refine tri_reg mixed hcx ?_ _ _
      refine fa rfl fTrR 3 ?_
      refine ld rfl rfl tyQ rfl ?_
      refine ca rfl (h := r03_ValidG (q := true) (by simp [hb]) (by omega)) (hn := ?_)
      refine mv rfl ?_
      refine fa rfl fTrR 3 ?_ (hg := gd1)
      refine fa rfl fNum 3 ?_ (hg := gd1)
      refine ld rfl rfl tyZ rfl ?_ (hg := gd1)
      refine ca rfl (h := r02_Sign (by omega)) (hn := ?_) (hg := gd1)
      refine cge rfl rfl (decide_eq_true (by omega)) ?_ (hg := gd1)
      refine pk rfl rfl ?_
      refine asg rfl ?_
      refine ⟨by kernel_rfl, ?_⟩
      refine nx (sl 2 rfl sn) (el 10 rfl en) ?_
      refine tri_ret ?_
      repeat (first | refine pn_thenr ?_ | refine pn_blkr ?_)
      exact ret1 hcx rfl (rv_tmp rfl) (.refl _) en
  · have htn : ts.length = L.length := by rcases ht with h | h <;> omega
    refine tri_reg mixed hcx ?_ _ _
    refine fa rfl fTrG 0 ?_
    refine ld rfl rfl tyG rfl ?_
    refine ca rfl (h := r05_Good (q := true) (by simp [hG]) (by omega) (by omega) (by omega)) (hn := ?_)
    refine nt rfl _ rfl ?_
    refine mv rfl ?_
    refine fa rfl fTrG 0 ?_ (hg := gd1)
    refine fa rfl fL 1 ?_ (hg := gd1)
    refine ld rfl rfl tyZss rfl ?_ (hg := gd1)
    refine ln slZss rfl ?_ (hg := gd1)
    refine cgt rfl rfl (decide_eq_false (by omega)) ?_ (hg := gd1)
    refine pk rfl rfl ?_
    refine mv rfl ?_
    refine fa rfl fTrT 2 ?_ (hg := gd1)
    refine ld rfl rfl tyQs rfl ?_ (hg := gd1)
    refine ln slQs rfl ?_ (hg := gd1)
    refine cne rfl rfl (decide_eq_true (by omega)) ?_ (hg := gd1)
    refine mv rfl ?_ (hg := gd1)
    refine fa rfl fTrT 2 ?_ (hg := gd1)
    refine ld rfl rfl tyQs rfl ?_ (hg := gd1)
    refine ln slQs rfl ?_ (hg := gd1)
    refine fa rfl fTrG 0 ?_ (hg := gd1)
    refine fa rfl fL 1 ?_ (hg := gd1)
    refine ld rfl rfl tyZss rfl ?_ (hg := gd1)
    refine ln slZss rfl ?_ (hg := gd1)
    refine cne rfl rfl (decide_eq_false (by omega)) ?_ (hg := gd1)
    refine pk rfl rfl ?_ (hg := gd1)
    refine pk rfl rfl ?_
    refine ⟨by kernel_rfl, ?_⟩
    refine nx (sl 1 rfl (sl 30 rfl sn)) (el 10 rfl en) ?_
    refine tri_false rfl rfl ?_
    refine tri_skip ?_
    refine nx (sl 1 rfl sn) (el 10 rfl en) ?_
    refine tri_seq ?_
    refine tri_seq ?_
    refine tri_reg mixed hcx ?_ _ _
    refine asg rfl ?_
    refine ⟨by kernel_rfl, ?_⟩
    refine nx (sl 1 rfl (sl 3 rfl sn)) (el 10 rfl en) ?_
    refine tri_block ?_
    refine tri_loop (ι := Nat) (fun i => [(1, T.p 10 0), (3, T.c (.int .i64 (i : Int)))]) (fun i => [(10, some (Ent.box 39 [T.l (cZi k) D, T.l (cL (cZi k)) L, T.l (cQi k) ts, T.Zi a k, T.Zi b k]))]) (fun i => ts.length - i) (fun i => (i ≤ ts.length)) 0 (Nat.zero_le _) (sl 1 rfl (sl 3 rfl sn)) (el 10 rfl en) ?_
    rintro i hi
    refine tri_sub (sl 1 rfl (sl 3 rfl sn)) (el 10 rfl en) ?_
    refine tri_seq ?_
    refine tri_seq ?_
    refine tri_reg mixed hcx ?_ _ _
    refine mv rfl ?_
    refine fa rfl fTrT 2 ?_
    refine ld rfl rfl tyQs rfl ?_
    refine ln slQs rfl ?_
    refine clt rfl rfl rfl ?_
    refine ⟨by kernel_rfl, ?_⟩
    refine nx (sl 1 rfl (sl 3 rfl (sl 35 rfl sn))) (el 10 rfl en) ?_
    refine tri_if rfl (fun hc => ?_) (fun hc => ?_)
    · have hp : 0 < (ts.getD i (cQi k).dflt).2 := hd i (by omega)
      refine tri_skip ?_
      refine nx (sl 1 rfl (sl 3 rfl sn)) (el 10 rfl en) ?_
      refine tri_seq ?_
      refine tri_block ?_
      refine tri_seq ?_
      refine tri_reg mixed hcx ?_ _ _
      refine fa rfl fTrT 2 ?_
      refine ld rfl rfl tyQs rfl ?_
      refine mv rfl ?_
      refine ix rfl rfl slQs ⟨rfl, by omega⟩ ?_
      refine lf rfl tyQ ?_
      refine ca rfl (h := r03_ValidG (a := (ts.getD i (cQi k).dflt).1) (b := (ts.getD i (cQi k).dflt).2) (k := k) (q := true) (iff_of_true rfl hp) (by omega)) (hn := ?_)
      refine nt rfl _ rfl ?_
      refine ⟨by kernel_rfl, ?_⟩
      refine nx (sl 1 rfl (sl 3 rfl (sl 44 rfl sn))) (el 10 rfl en) ?_
      refine tri_false rfl rfl ?_
      refine tri_skip ?_
      refine pn_blk ?_
      refine nx (sl 1 rfl (sl 3 rfl sn)) (el 10 rfl en) ?_
      refine tri_reg mixed hcx ?_ _ _
      refine mv rfl ?_
      refine ad (((i + 1 : Nat) : Int)) rfl rfl rfl (by omega) ?_
      refine asg rfl ?_
      refine ⟨by kernel_rfl, ?_⟩
      exact pn_back (i + 1) (by first | omega | (dsimp only; omega)) (by omega) (sl 1 rfl (sl 3 rfl sn)) (el 10 rfl en)
    · refine tri_exit ?_
      repeat (first | refine pn_then ?_ | refine pn_oth (by decide) ?_)
      refine pn_ex ?_
      refine nx (sl 1 rfl sn) (el 10 rfl en) ?_
      refine tri_seq ?_
      refine tri_reg mixed hcx ?_ _ _
      refine fa rfl fTrR 3 ?_
      refine ld rfl rfl tyQ rfl ?_
      refine ca rfl (h := r03_ValidG (q := true) (by simp [hb]) (by omega)) (hn := ?_)
      refine mv rfl ?_
      refine fa rfl fTrR 3 ?_ (hg := gd1)
      refine fa rfl fNum 3 ?_ (hg := gd1)
      refine ld rfl rfl tyZ rfl ?_ (hg := gd1)
      refine ca rfl (h := r02_Sign (by omega)) (hn := ?_) (hg := gd1)
      refine cge rfl rfl (decide_eq_true (by omega)) ?_ (hg := gd1)
      refine pk rfl rfl ?_
      refine asg rfl ?_
      refine ⟨by kernel_rfl, ?_⟩
      refine nx (sl 2 rfl sn) (el 10 rfl en) ?_
      refine tri_ret ?_
      repeat (first | refine pn_thenr ?_ | refine pn_blkr ?_)
      exact ret1 hcx rfl (rv_tmp rfl) (.refl _) en

theorem r11_Valid_no {D : List Int} {L : List (List Int)} {ts : List (Int × Int)} {a b : Int} {k : Nat} (hk : k ≤ 16777216) (hLl : L.length ≤ 1048576) (hDl : D.length ≤ 1048576) (htl : ts.length ≤ 1048576) (hV : ¬ TrV D L ts a b) : Fn Tryz.prog 21 [T.Tr D L ts a b k] [] [] [] (T.c (.bool false)) := by
  classical
  by_cases hG : GoodP D L
  · by_cases hn : L.length ≤ 12
    · by_cases ht : ts.length = 0 ∨ ts.length = L.length
      · by_cases hd : ∀ i, i < ts.length → 0 < (ts.getD i (0, 0)).2
        · by_cases hb : 0 < b
          · exact r11_Valid6 hk hLl hDl htl hG hn ht hd hb (fun ha => hV ⟨hG, hn, ht, hd, hb, ha⟩)
          · exact r11_Valid5 hk hLl hDl htl hG hn ht hd hb
        · obtain ⟨w, h1, h2, h3⟩ := least_bad hd
          exact r11_Valid4 hk hLl hDl htl hG hn ht h1 h2 h3
      · exact r11_Valid3 hk hLl hDl htl hG hn (fun h => ht (.inl h)) (fun h => ht (.inr h))
    · exact r11_Valid2 hk hLl hDl htl hG (by omega)
  · exact r11_Valid1 hk hLl hDl htl hG

theorem r11_aim {D : List Int} {L : List (List Int)} {ts : List (Int × Int)} {a b : Int} {n k : Nat} (h : TrS D L ts n k) {i : Nat} (hi : i < n) : Fn Tryz.prog 125 [T.Tr D L ts a b k, T.c (.int .i64 (i : Int))] [] [] [] (T.Q (aqT ts i) (k + 2)) := by
  refine fn_of Tryz.func125 rfl (by show 2 ≤ 24; decide) fun cx hcx => ?_
  refine tri_sub (sl 0 rfl (sl 1 rfl sn)) en ?_
  have hn12 := h.twelve
  have hkk := h.hk
  have hlL := h.len
  have hn0 := h.pos
  refine tri_seq ?_
  refine tri_reg mixed hcx ?_ _ _
  refine bxs 10 rfl ?_
  refine nw 11 zeQ ?_
  refine ⟨by kernel_rfl, ?_⟩
  refine nx (sl 1 rfl (sl 2 rfl (sl 4 rfl sn))) (el 10 rfl (el 11 rfl en)) ?_
  refine tri_seq ?_
  refine tri_seq ?_
  by_cases htz : ts.length = 0
  · refine tri_reg mixed hcx ?_ _ _
    refine fa rfl fTrT 2 ?_
    refine ld rfl rfl tyQs rfl ?_
    refine ln slQs rfl ?_
    refine ceq rfl rfl (decide_eq_true (by omega)) ?_
    refine ⟨by kernel_rfl, ?_⟩
    refine nx (sl 1 rfl (sl 2 rfl (sl 4 rfl (sl 8 rfl sn)))) (el 10 rfl (el 11 rfl en)) ?_
    refine tri_true rfl rfl ?_
    refine tri_seq ?_
    refine tri_reg mixed hcx ?_ _ _
    refine bu stZ rfl ?_
    refine ca rfl (h := r03_Of (by omega)) (hn := ?_)
    refine st rfl rfl rfl tyQ rfl ?_
    refine ⟨by kernel_rfl, ?_⟩
    refine nx (sl 4 rfl sn) (el 10 rfl (el 11 rfl en)) ?_
    refine tri_ret ?_
    repeat (first | refine pn_thenr ?_ | refine pn_blkr ?_)
    exact ret1 hcx rfl (rv_cell (c' := cx) (n := 0) rfl rfl tyQ rfl) (q_qb (by unfold aqT; rw [if_pos htz]; rfl) (h.a hi)) en
  · have hti : i < ts.length := by rcases h.tl with h1 | h1 <;> omega
    have hte : 0 < (ts.getD i (cQi k).dflt).2 := h.tp i hti
    refine tri_reg mixed hcx ?_ _ _
    refine fa rfl fTrT 2 ?_
    refine ld rfl rfl tyQs rfl ?_
    refine ln slQs rfl ?_
    refine ceq rfl rfl (decide_eq_false (by omega)) ?_
    refine ⟨by kernel_rfl, ?_⟩
    refine nx (sl 1 rfl (sl 2 rfl (sl 4 rfl (sl 8 rfl sn)))) (el 10 rfl (el 11 rfl en)) ?_
    refine tri_false rfl rfl ?_
    refine tri_skip ?_
    refine nx (sl 1 rfl (sl 2 rfl (sl 4 rfl sn))) (el 10 rfl (el 11 rfl en)) ?_
    refine tri_seq ?_
    refine tri_reg mixed hcx ?_ _ _
    refine fa rfl fTrT 2 ?_
    refine ld rfl rfl tyQs rfl ?_
    refine mv rfl ?_
    refine ix rfl rfl slQs ⟨rfl, by omega⟩ ?_
    refine ff rfl fNum rfl ?_
    refine lf rfl tyZ ?_
    refine fa rfl fTrT 2 ?_
    refine ld rfl rfl tyQs rfl ?_
    refine mv rfl ?_
    refine ix rfl rfl slQs ⟨rfl, by omega⟩ ?_
    refine ff rfl fDen rfl ?_
    refine lf rfl tyZ ?_
    refine ca rfl (h := r03_Make (a := (ts.getD i (cQi k).dflt).1) (b := (ts.getD i (cQi k).dflt).2) (k := k) (l := k) (by omega) (by omega) (by omega)) (hn := ?_)
    refine st rfl rfl rfl tyQ rfl ?_
    refine ⟨by kernel_rfl, ?_⟩
    refine nx (sl 4 rfl sn) (el 10 rfl (el 11 rfl en)) ?_
    refine tri_ret ?_
    repeat (first | refine pn_thenr ?_ | refine pn_blkr ?_)
    exact ret1 hcx rfl (rv_cell (c' := cx) (n := 0) rfl rfl tyQ rfl) (q_qb (by unfold aqT; rw [if_neg htz]; rfl) (h.a hi)) en

theorem r11_Centre {D : List Int} {L : List (List Int)} {ts : List (Int × Int)} {a b : Int} {n k : Nat} (h : TrS D L ts n k) {s : List Int} (hs : s.length + 1 ≤ n) : Fn Tryz.prog 69 [T.Tr D L ts a b k, T.l (cZi k) s] [] [] [] (T.Q (ctT D L ts s (n - 1) (n - 1 - s.length) s.length) 600000000) := by
  refine fn_of Tryz.func69 rfl (by show 2 ≤ 52; decide) fun cx hcx => ?_
  refine tri_sub (sl 0 rfl (sl 1 rfl sn)) en ?_
  have hn12 := h.twelve
  have hkk := h.hk
  have hlL := h.len
  have hn0 := h.pos
  refine tri_lz 1 rfl fun hz => ?_
  have hQ := fun e (he : n - 1 - s.length + e ≤ n - 1) => h.ct' hz (m := n - 1) (i := n - 1 - s.length) (c := e) (by omega) he
  refine tri_seq ?_
  refine tri_reg mixed hcx ?_ _ _
  refine bxs 10 rfl ?_
  refine nw 11 zeQ ?_
  refine ⟨by kernel_rfl, ?_⟩
  refine nx (sl 1 rfl (sl 2 rfl (sl 4 rfl sn))) (el 10 rfl (el 11 rfl en)) ?_
  refine tri_seq ?_
  refine tri_reg mixed hcx ?_ _ _
  refine fa rfl fTrG 0 ?_
  refine fa rfl fL 1 ?_
  refine ld rfl rfl tyZss rfl ?_
  refine ln slZss rfl ?_
  refine asg rfl ?_
  refine ⟨by kernel_rfl, ?_⟩
  refine nx (sl 1 rfl (sl 2 rfl (sl 4 rfl (sl 5 rfl sn)))) (el 10 rfl (el 11 rfl en)) ?_
  refine tri_seq ?_
  refine tri_reg mixed hcx ?_ _ _
  refine mv rfl ?_
  refine sb (((n - 1 : Nat) : Int)) rfl rfl rfl (by omega) ?_
  refine mv rfl ?_
  refine ln slZs rfl ?_
  refine sb (((n - 1 - s.length : Nat) : Int)) rfl rfl rfl (by omega) ?_
  refine asg rfl ?_
  refine ⟨by kernel_rfl, ?_⟩
  refine nx (sl 1 rfl (sl 2 rfl (sl 4 rfl (sl 5 rfl (sl 6 rfl sn))))) (el 10 rfl (el 11 rfl en)) ?_
  refine tri_seq ?_
  refine tri_reg mixed hcx ?_ _ _
  refine ld rfl rfl tyTr rfl ?_
  refine mv rfl ?_
  refine ca rfl (h := r11_aim h (by omega)) (hn := ?_)
  refine nw 313 zeQ ?_
  refine st rfl rfl rfl tyQ rfl ?_
  refine ⟨by kernel_rfl, ?_⟩
  refine nx (sl 1 rfl (sl 2 rfl (sl 4 rfl (sl 5 rfl (sl 6 rfl (sl 7 rfl sn)))))) (el 10 rfl (el 11 rfl (el 313 rfl en))) ?_
  refine tri_seq ?_
  refine tri_seq ?_
  refine tri_reg mixed hcx ?_ _ _
  refine asg rfl ?_
  refine ⟨by kernel_rfl, ?_⟩
  refine nx (sl 1 rfl (sl 2 rfl (sl 4 rfl (sl 5 rfl (sl 6 rfl (sl 7 rfl (sl 8 rfl sn))))))) (el 10 rfl (el 11 rfl (el 313 rfl en))) ?_
  refine tri_block ?_
  refine tri_loop (ι := Nat) (fun e => [(1, T.l (cZi k) s), (2, T.p 10 0), (4, T.p 11 0), (5, T.c (.int .i64 (L.length : Int))), (6, T.c (.int .i64 ((n - 1 - s.length : Nat) : Int))), (7, T.p 313 0), (8, T.c (.int .i64 (e : Int)))]) (fun e => [(10, some (Ent.box 39 [T.l (cZi k) D, T.l (cL (cZi k)) L, T.l (cQi k) ts, T.Zi a k, T.Zi b k])), (11, some (Ent.box 34 [T.c (.bool false), T.c (.slice none 0 0), T.c (.bool false), T.c (.slice none 0 0)])), (313, some (Ent.box 34 [T.Q (ctT D L ts s (n - 1) (n - 1 - s.length) e) 600000000]))]) (fun e => s.length - e) (fun e => (e ≤ s.length)) 0 (Nat.zero_le _) (sl 1 rfl (sl 2 rfl (sl 4 rfl (sl 5 rfl (sl 6 rfl (sl 7 rfl (sl 8 rfl sn))))))) (el 10 rfl (el 11 rfl (ew 313 rfl (box_q (q_qb rfl (hQ 0 (by omega)))) en))) ?_
  rintro e he
  refine tri_sub (sl 1 rfl (sl 2 rfl (sl 4 rfl (sl 5 rfl (sl 6 rfl (sl 7 rfl (sl 8 rfl sn))))))) (el 10 rfl (el 11 rfl (el 313 rfl en))) ?_
  refine tri_seq ?_
  refine tri_seq ?_
  refine tri_reg mixed hcx ?_ _ _
  refine mv rfl ?_
  refine mv rfl ?_
  refine ln slZs rfl ?_
  refine clt rfl rfl rfl ?_
  refine ⟨by kernel_rfl, ?_⟩
  refine nx (sl 1 rfl (sl 2 rfl (sl 4 rfl (sl 5 rfl (sl 6 rfl (sl 7 rfl (sl 8 rfl (sl 26 rfl sn)))))))) (el 10 rfl (el 11 rfl (el 313 rfl en))) ?_
  refine tri_if rfl (fun hc => ?_) (fun hc => ?_)
  · refine tri_skip ?_
    refine nx (sl 1 rfl (sl 2 rfl (sl 4 rfl (sl 5 rfl (sl 6 rfl (sl 7 rfl (sl 8 rfl sn))))))) (el 10 rfl (el 11 rfl (el 313 rfl en))) ?_
    refine tri_seq ?_
    refine tri_block ?_
    refine tri_seq ?_
    refine tri_reg mixed hcx ?_ _ _
    refine mv rfl ?_
    refine sb (((n - 1 : Nat) : Int)) rfl rfl rfl (by omega) ?_
    refine mv rfl ?_
    refine sb (((n - 1 - e : Nat) : Int)) rfl rfl rfl (by omega) ?_
    refine asg rfl ?_
    refine ⟨by kernel_rfl, ?_⟩
    refine nx (sl 1 rfl (sl 2 rfl (sl 4 rfl (sl 5 rfl (sl 6 rfl (sl 7 rfl (sl 8 rfl (sl 9 rfl sn)))))))) (el 10 rfl (el 11 rfl (el 313 rfl en))) ?_
    refine tri_seq ?_
    refine tri_reg mixed hcx ?_ _ _
    refine mv rfl ?_
    refine mv rfl ?_
    refine ix rfl rfl slZs ⟨rfl, by omega⟩ ?_
    refine lf rfl tyZ ?_
    refine ca rfl (h := r03_Of (by omega)) (hn := ?_)
    refine ld rfl rfl tyTr rfl ?_
    refine mv rfl ?_
    refine ca rfl (h := r11_aim h (by omega)) (hn := ?_)
    refine cb rfl (h := r3v_Sub (by omega) (by omega)) (hn := ?_)
    refine nw 819 zeQ ?_
    refine st rfl rfl rfl tyQ rfl ?_
    refine ⟨by kernel_rfl, ?_⟩
    refine nx (sl 1 rfl (sl 2 rfl (sl 4 rfl (sl 5 rfl (sl 6 rfl (sl 7 rfl (sl 8 rfl (sl 9 rfl (sl 10 rfl sn))))))))) (el 10 rfl (el 11 rfl (el 313 rfl (el 819 rfl en)))) ?_
    refine tri_reg mixed hcx ?_ _ _
    refine ld rfl rfl tyQ rfl ?_
    refine fa rfl fTrG 0 ?_
    refine ld rfl rfl tyG rfl ?_
    refine mv rfl ?_
    refine mv rfl ?_
    refine ca rfl (h := r05_Mu (k := k) (i := n - 1 - e) (j := n - 1 - s.length) (by omega) (by omega) h.good (by omega) (by omega)) (hn := ?_)
    refine ld rfl rfl tyQ rfl ?_
    refine cb rfl (h := r3v_Mul (by omega) (by omega)) (hn := ?_)
    refine cb rfl (h := r3v_Sub (by omega) (by omega)) (hn := ?_)
    refine st rfl rfl rfl tyQ rfl ?_
    refine ⟨by kernel_rfl, ?_⟩
    refine pn_blk ?_
    refine nx (sl 1 rfl (sl 2 rfl (sl 4 rfl (sl 5 rfl (sl 6 rfl (sl 7 rfl (sl 8 rfl sn))))))) (el 10 rfl (el 11 rfl (el 313 rfl (el 819 rfl en)))) ?_
    refine tri_reg mixed hcx ?_ _ _
    refine mv rfl ?_
    refine ad (((e + 1 : Nat) : Int)) rfl rfl rfl (by omega) ?_
    refine asg rfl ?_
    refine ⟨by kernel_rfl, ?_⟩
    exact pn_back (e + 1) (by first | omega | (dsimp only; omega)) (by omega) (sl 1 rfl (sl 2 rfl (sl 4 rfl (sl 5 rfl (sl 6 rfl (sl 7 rfl (sl 8 rfl sn))))))) (el 10 rfl (el 11 rfl (ew 313 rfl (box_q (q_qb (congrArg (fun z => ctT D L ts s (n - 1) (n - 1 - s.length) e - z) (Rat.mul_comm _ _)) (hQ (e + 1) (by omega)))) en)))
  · refine tri_exit ?_
    repeat (first | refine pn_then ?_ | refine pn_oth (by decide) ?_)
    refine pn_ex ?_
    have hes : e = s.length := by omega
    refine nx (sl 4 rfl (sl 7 rfl sn)) (el 10 rfl (el 11 rfl (el 313 rfl en))) ?_
    refine tri_seq ?_
    refine tri_reg mixed hcx ?_ _ _
    refine ld rfl rfl tyQ rfl ?_
    refine st rfl rfl rfl tyQ rfl ?_
    refine ⟨by kernel_rfl, ?_⟩
    refine nx (sl 4 rfl sn) (el 10 rfl (el 11 rfl (el 313 rfl en))) ?_
    refine tri_ret ?_
    repeat (first | refine pn_thenr ?_ | refine pn_blkr ?_)
    exact ret1 hcx rfl (rv_cell (c' := cx) (n := 0) rfl rfl tyQ rfl) (q_eq (by rw [hes]) (Nat.le_refl _)) en

theorem r11_Part {D : List Int} {L : List (List Int)} {ts : List (Int × Int)} {a b : Int} {n k : Nat} (h : TrS D L ts n k) {s : List Int} (hs : s.length ≤ n) : Fn Tryz.prog 70 [T.Tr D L ts a b k, T.l (cZi k) s] [] [] [] (T.Q (ptT D L ts s (n - 1) s.length) 15100000000) := by
  refine fn_of Tryz.func70 rfl (by show 2 ≤ 46; decide) fun cx hcx => ?_
  refine tri_sub (sl 0 rfl (sl 1 rfl sn)) en ?_
  have hn12 := h.twelve
  have hkk := h.hk
  have hlL := h.len
  have hn0 := h.pos
  refine tri_lz 1 rfl fun hz => ?_
  have hQ := fun e (he : e ≤ n) => h.pt' hz (m := n - 1) (c := e) (by omega) he
  refine tri_seq ?_
  refine tri_reg mixed hcx ?_ _ _
  refine bxs 10 rfl ?_
  refine nw 11 zeQ ?_
  refine ⟨by kernel_rfl, ?_⟩
  refine nx (sl 1 rfl (sl 2 rfl (sl 4 rfl sn))) (el 10 rfl (el 11 rfl en)) ?_
  refine tri_seq ?_
  refine tri_reg mixed hcx ?_ _ _
  refine bu stZ rfl ?_
  refine ca rfl (h := r03_Of (by omega)) (hn := ?_)
  refine nw 112 zeQ ?_
  refine st rfl rfl rfl tyQ rfl ?_
  refine ⟨by kernel_rfl, ?_⟩
  refine nx (sl 1 rfl (sl 2 rfl (sl 4 rfl (sl 5 rfl sn)))) (el 10 rfl (el 11 rfl (el 112 rfl en))) ?_
  refine tri_seq ?_
  refine tri_seq ?_
  refine tri_reg mixed hcx ?_ _ _
  refine asg rfl ?_
  refine ⟨by kernel_rfl, ?_⟩
  refine nx (sl 1 rfl (sl 2 rfl (sl 4 rfl (sl 5 rfl (sl 6 rfl sn))))) (el 10 rfl (el 11 rfl (el 112 rfl en))) ?_
  refine tri_block ?_
  refine tri_loop (ι := Nat) (fun e => [(1, T.l (cZi k) s), (2, T.p 10 0), (4, T.p 11 0), (5, T.p 112 0), (6, T.c (.int .i64 (e : Int)))]) (fun e => [(10, some (Ent.box 39 [T.l (cZi k) D, T.l (cL (cZi k)) L, T.l (cQi k) ts, T.Zi a k, T.Zi b k])), (11, some (Ent.box 34 [T.c (.bool false), T.c (.slice none 0 0), T.c (.bool false), T.c (.slice none 0 0)])), (112, some (Ent.box 34 [T.Q (ptT D L ts s (n - 1) e) 15100000000]))]) (fun e => s.length - e) (fun e => (e ≤ s.length)) 0 (Nat.zero_le _) (sl 1 rfl (sl 2 rfl (sl 4 rfl (sl 5 rfl (sl 6 rfl sn))))) (el 10 rfl (el 11 rfl (ew 112 rfl (box_q (q_qb (by rfl) (hQ 0 (by omega)))) en))) ?_
  rintro e he
  refine tri_sub (sl 1 rfl (sl 2 rfl (sl 4 rfl (sl 5 rfl (sl 6 rfl sn))))) (el 10 rfl (el 11 rfl (el 112 rfl en))) ?_
  refine tri_seq ?_
  refine tri_seq ?_
  refine tri_reg mixed hcx ?_ _ _
  refine mv rfl ?_
  refine mv rfl ?_
  refine ln slZs rfl ?_
  refine clt rfl rfl rfl ?_
  refine ⟨by kernel_rfl, ?_⟩
  refine nx (sl 1 rfl (sl 2 rfl (sl 4 rfl (sl 5 rfl (sl 6 rfl (sl 14 rfl sn)))))) (el 10 rfl (el 11 rfl (el 112 rfl en))) ?_
  refine tri_if rfl (fun hc => ?_) (fun hc => ?_)
  · have htk : (s.take e).length = e := by rw [List.length_take]; omega
    have hCt := fn_out (r11_Centre (a := a) (b := b) (s := s.take e) h (by omega)) (q_eq (q' := ctT D L ts s (n - 1) (n - 1 - e) e) (by rw [htk]; exact ctT_ext fun j hj => by rw [take_getD hj]) (Nat.le_refl _))
    refine tri_skip ?_
    refine nx (sl 1 rfl (sl 2 rfl (sl 4 rfl (sl 5 rfl (sl 6 rfl sn))))) (el 10 rfl (el 11 rfl (el 112 rfl en))) ?_
    refine tri_seq ?_
    refine tri_block ?_
    refine tri_seq ?_
    refine tri_reg mixed hcx ?_ _ _
    refine fa rfl fTrG 0 ?_
    refine fa rfl fL 1 ?_
    refine ld rfl rfl tyZss rfl ?_
    refine ln slZss rfl ?_
    refine sb (((n - 1 : Nat) : Int)) rfl rfl rfl (by omega) ?_
    refine mv rfl ?_
    refine sb (((n - 1 - e : Nat) : Int)) rfl rfl rfl (by omega) ?_
    refine asg rfl ?_
    refine ⟨by kernel_rfl, ?_⟩
    refine nx (sl 1 rfl (sl 2 rfl (sl 4 rfl (sl 5 rfl (sl 6 rfl (sl 7 rfl sn)))))) (el 10 rfl (el 11 rfl (el 112 rfl en))) ?_
    refine tri_seq ?_
    refine tri_reg mixed hcx ?_ _ _
    refine mv rfl ?_
    refine mv rfl ?_
    refine ix rfl rfl slZs ⟨rfl, by omega⟩ ?_
    refine lf rfl tyZ ?_
    refine ca rfl (h := r03_Of (by omega)) (hn := ?_)
    refine ld rfl rfl tyTr rfl ?_
    refine mv rfl ?_
    refine mv rfl ?_
    refine sh rfl slZs rfl ⟨rfl, by omega⟩ ?_
    refine ca rfl (h := hCt) (hn := ?_)
    refine cb rfl (h := r3v_Sub (by omega) (by omega)) (hn := ?_)
    refine nw 621 zeQ ?_
    refine st rfl rfl rfl tyQ rfl ?_
    refine ⟨by kernel_rfl, ?_⟩
    refine nx (sl 1 rfl (sl 2 rfl (sl 4 rfl (sl 5 rfl (sl 6 rfl (sl 7 rfl (sl 8 rfl sn))))))) (el 10 rfl (el 11 rfl (el 112 rfl (el 621 rfl en)))) ?_
    refine tri_reg mixed hcx ?_ _ _
    refine ld rfl rfl tyQ rfl ?_
    refine ld rfl rfl tyQ rfl ?_
    refine ld rfl rfl tyQ rfl ?_
    refine cb rfl (h := r3v_Mul (by omega) (by omega)) (hn := ?_)
    refine fa rfl fTrG 0 ?_
    refine ld rfl rfl tyG rfl ?_
    refine mv rfl ?_
    refine ca rfl (h := r05_Star (k := k) (i := n - 1 - e) (by omega) (by omega) h.good (by omega)) (hn := ?_)
    refine cb rfl (h := r3v_Mul (by omega) (by omega)) (hn := ?_)
    refine cb rfl (h := r3v_Add (by omega) (by omega)) (hn := ?_)
    refine st rfl rfl rfl tyQ rfl ?_
    refine ⟨by kernel_rfl, ?_⟩
    refine pn_blk ?_
    refine nx (sl 1 rfl (sl 2 rfl (sl 4 rfl (sl 5 rfl (sl 6 rfl sn))))) (el 10 rfl (el 11 rfl (el 112 rfl (el 621 rfl en)))) ?_
    refine tri_reg mixed hcx ?_ _ _
    refine mv rfl ?_
    refine ad (((e + 1 : Nat) : Int)) rfl rfl rfl (by omega) ?_
    refine asg rfl ?_
    refine ⟨by kernel_rfl, ?_⟩
    exact pn_back (e + 1) (by first | omega | (dsimp only; omega)) (by omega) (sl 1 rfl (sl 2 rfl (sl 4 rfl (sl 5 rfl (sl 6 rfl sn))))) (el 10 rfl (el 11 rfl (ew 112 rfl (box_q (q_qb rfl (hQ (e + 1) (by omega)))) en)))
  · refine tri_exit ?_
    repeat (first | refine pn_then ?_ | refine pn_oth (by decide) ?_)
    refine pn_ex ?_
    have hes : e = s.length := by omega
    refine nx (sl 4 rfl (sl 5 rfl sn)) (el 10 rfl (el 11 rfl (el 112 rfl en))) ?_
    refine tri_seq ?_
    refine tri_reg mixed hcx ?_ _ _
    refine ld rfl rfl tyQ rfl ?_
    refine st rfl rfl rfl tyQ rfl ?_
    refine ⟨by kernel_rfl, ?_⟩
    refine nx (sl 4 rfl sn) (el 10 rfl (el 11 rfl (el 112 rfl en))) ?_
    refine tri_ret ?_
    repeat (first | refine pn_thenr ?_ | refine pn_blkr ?_)
    exact ret1 hcx rfl (rv_cell (c' := cx) (n := 0) rfl rfl tyQ rfl) (q_eq (by rw [hes]) (Nat.le_refl _)) en

theorem r11_In {D : List Int} {L : List (List Int)} {ts : List (Int × Int)} {a b : Int} {n k : Nat} (h : TrS D L ts n k) {s : List Int} (hb : 0 < b) (hs : s.length ≤ n) : Fn Tryz.prog 68 [T.Tr D L ts a b k, T.l (cZi k) s] [] [] [] (T.c (.bool (decide (ptT D L ts s (n - 1) s.length ≤ (a : Rat) / (b : Rat))))) := by
  refine fn_of Tryz.func68 rfl (by show 2 ≤ 12; decide) fun cx hcx => ?_
  refine tri_sub (sl 0 rfl (sl 1 rfl sn)) en ?_
  have hn12 := h.twelve
  have hkk := h.hk
  have hlL := h.len
  have hn0 := h.pos
  refine tri_seq ?_
  refine tri_reg mixed hcx ?_ _ _
  refine bxs 10 rfl ?_
  refine asg rfl ?_
  refine ⟨by kernel_rfl, ?_⟩
  refine nx (sl 1 rfl (sl 2 rfl sn)) (el 10 rfl en) ?_
  refine tri_seq ?_
  refine tri_reg mixed hcx ?_ _ _
  refine ld rfl rfl tyTr rfl ?_
  refine mv rfl ?_
  refine ca rfl (h := r11_Part h (by omega)) (hn := ?_)
  refine fa rfl fTrR 3 ?_
  refine ld rfl rfl tyQ rfl ?_
  refine cb rfl (h := r3v_Cmp (by omega) (by omega)) (hn := ?_)
  refine cle rfl rfl rfl ?_
  refine asg rfl ?_
  refine ⟨by kernel_rfl, ?_⟩
  refine nx (sl 4 rfl sn) (el 10 rfl en) ?_
  refine tri_ret ?_
  repeat (first | refine pn_thenr ?_ | refine pn_blkr ?_)
  exact ret1 hcx rfl (rv_tmp rfl) (.of (by rw [decide_eq_decide.2 sgq_le])) en

end Go.Proofs.YtekghdfbhbhigaaGreat.V
/- Search trees: every suffix has the part that its definition tells. -/
set_option linter.unusedVariables false
set_option linter.unusedSimpArgs false
set_option maxRecDepth 100000
namespace Go.Proofs.YtekghdfbhbhigaaGreat.V
open Go.RowKit Mt Nml
-- left out

-- left out

-- left out

-- left out
end Go.Proofs.YtekghdfbhbhigaaGreat.V
/- What is read of the arguments of a law: search trees. -/
set_option linter.unusedVariables false
set_option linter.unusedSimpArgs false
namespace Go.Proofs.YtekghdfbhbhigaaGreat.V
open Go.Deep Go.ChangeShapes Go.WideShapes Go.ChangeAt Go.RowKit Mt Nml
section
variable {P : Program} {H : Type} {enc : TypeId × Value → H} {W : World} {base : Nat} {spare : Nat → Bool} {held : Bool} {fuel : Nat} {cs : List Value} {x : DataW H × List MemPlace}
theorem trod_struct3 {t : TypeId} {f0 f1 f2 : Field} (ht : P.underlying t = some (.struct #[f0, f1, f2])) (h : DataW.trod enc P W base spare held fuel t cs = some x) :
    ∃ y0 y1 y2 n, x = (.agg [y0.1, y1.1, y2.1], y0.2 ++ (y1.2 ++ y2.2)) ∧ cs.length = P.cellsOf t ∧ DataW.trod enc P W base spare held n f0.type ((cs.drop f0.offset).take (P.cellsOf f0.type)) = some y0 ∧
      DataW.trod enc P W base spare held n f1.type ((cs.drop f1.offset).take (P.cellsOf f1.type)) = some y1 ∧ DataW.trod enc P W base spare held n f2.type ((cs.drop f2.offset).take (P.cellsOf f2.type)) = some y2 := by
  obtain ⟨xs, n, _, rfl, hl, hlen, hf⟩ := DataW.trod_struct ht h
  match xs, hlen with
  | [y0, y1, y2], _ => exact ⟨y0, y1, y2, n, by simp, hl, by simpa using hf 0 f0 rfl, by simpa using hf 1 f1 rfl, by simpa using hf 2 f2 rfl⟩
set_option maxRecDepth 100000 in
theorem read_Tree {k : Nat} (h : DataW.trod enc Tryz.prog W base spare held fuel 39 cs = some x) (hk : Rows.uptoBulk x.1 ≤ k) : ∃ D L ts a b, (T.Tr D L ts a b k).rep B0 W (.agg cs.toArray) ∧ D.length ≤ k ∧ L.length ≤ k ∧ ts.length ≤ k := by
  obtain ⟨y0, y1, y2, m, rfl, hl, h0, h1, h2⟩ := trod_struct3 Tryz.underlying39 h
  have hl2 : cs.length = 7 := hl.trans (by kernel_rfl)
  have hk' : Rows.uptoBulk y0.1 + (Rows.uptoBulk y1.1 + (Rows.uptoBulk y2.1 + 0)) + 1 ≤ k := hk
  match cs, hl2 with
  | [c0, c1, c2, c3, c4, c5, c6], _ =>
    have k0 : (([c0, c1, c2, c3, c4, c5, c6] : List Value).drop 0).take (Tryz.prog.cellsOf 27) = [c0, c1] := by rw [show Tryz.prog.cellsOf 27 = 2 from by kernel_rfl]; rfl
    have k1 : (([c0, c1, c2, c3, c4, c5, c6] : List Value).drop 2).take (Tryz.prog.cellsOf 37) = [c2] := by rw [show Tryz.prog.cellsOf 37 = 1 from by kernel_rfl]; rfl
    have k2 : (([c0, c1, c2, c3, c4, c5, c6] : List Value).drop 3).take (Tryz.prog.cellsOf 34) = [c3, c4, c5, c6] := by rw [show Tryz.prog.cellsOf 34 = 4 from by kernel_rfl]; rfl
    rw [k0] at h0
    rw [k1] at h1
    rw [k2] at h2
    obtain ⟨D, L, hG, hD, hL⟩ := read_Gso (k := k) h0 (by omega)
    obtain ⟨v, ts, e1, hT, hTn⟩ := read_fracs (k := k) h1 (by omega)
    obtain ⟨a, b, hR⟩ := read_Frac (k := k) h2 (by omega)
    cases e1
    refine ⟨D, L, ts, a, b, tr_flat (A := T.l (cZi k) D) (B := T.l (cL (cZi k)) L) (C := T.l (cQi k) ts) (D := T.Zi a k) (E := T.Zi b k) _ _ _ ⟨[c0, c1, c2, c3, c4, c5, c6], rfl, .agg #[c0, c1], [c2, c3, c4, c5, c6], by show (2 : Nat) ≠ 0; omega, hG, rfl, c2, [c3, c4, c5, c6], by show (1 : Nat) ≠ 0; omega, hT, ?_, .agg #[c3, c4, c5, c6], [], by show (4 : Nat) ≠ 0; omega, hR, rfl, rfl⟩, hD, hL, by omega⟩
    obtain ⟨A, n, q, rfl, _⟩ := hT
    rfl
end
end Go.Proofs.YtekghdfbhbhigaaGreat.V
/- A search tree: how large its numbers are; each suffix has so many nodes below it. -/
set_option linter.unusedVariables false
set_option maxRecDepth 100000
namespace Go.Proofs.YtekghdfbhbhigaaGreat.V
open Go.RowKit Mt Nml
/-- A fraction's size. -/
def Rb (q : Rat) (e : Nat) : Prop := -((B e : Int) : Rat) ≤ q ∧ q ≤ ((B e : Int) : Rat)
theorem B_rp (e : Nat) : (1 : Rat) ≤ ((B e : Int) : Rat) := by
  have := Int.add_one_le_iff.2 (B_pos e)
  rw [show (1 : Rat) = ((1 : Int) : Rat) from rfl, Rat.intCast_le_intCast]
  omega
theorem B_rm {e f : Nat} (h : e ≤ f) : ((B e : Int) : Rat) ≤ ((B f : Int) : Rat) := Rat.intCast_le_intCast.2 (B_mono h)
theorem B_r2 (e : Nat) : ((B e : Int) : Rat) + ((B e : Int) : Rat) ≤ ((B (e + 1) : Int) : Rat) := by
  rw [← Rat.intCast_add, Rat.intCast_le_intCast, B_succ]
  have := B_pos e
  omega
theorem B_rmul (e f : Nat) : ((B (e + f) : Int) : Rat) = ((B e : Int) : Rat) * ((B f : Int) : Rat) := by rw [B_add, Rat.intCast_mul]
theorem Rb.mono {q : Rat} {e f : Nat} (h : Rb q e) (hf : e ≤ f) : Rb q f := by
  have := B_rm hf
  unfold Rb at *
  generalize ((B e : Int) : Rat) = x at *
  generalize ((B f : Int) : Rat) = y at *
  grind
theorem Rb.add {x y : Rat} {e : Nat} (h : Rb x e) (k : Rb y e) : Rb (x + y) (e + 1) := by
  have := B_r2 e
  unfold Rb at *
  generalize ((B e : Int) : Rat) = a at *
  generalize ((B (e + 1) : Int) : Rat) = b at *
  grind
theorem Rb.sub {x y : Rat} {e : Nat} (h : Rb x e) (k : Rb y e) : Rb (x - y) (e + 1) := by
  have := B_r2 e
  unfold Rb at *
  generalize ((B e : Int) : Rat) = a at *
  generalize ((B (e + 1) : Int) : Rat) = b at *
  grind
theorem Rb.mul {x y : Rat} {e f : Nat} (h : Rb x e) (k : Rb y f) : Rb (x * y) (e + f) := by
  unfold Rb at *
  rw [B_rmul]
  generalize ((B e : Int) : Rat) = a at *
  generalize ((B f : Int) : Rat) = c at *
  obtain ⟨h1, h2⟩ := h
  obtain ⟨k1, k2⟩ := k
  have p1 := Rat.mul_nonneg (show 0 ≤ a - x by grind) (show 0 ≤ c + y by grind)
  have p2 := Rat.mul_nonneg (show 0 ≤ a + x by grind) (show 0 ≤ c - y by grind)
  have p3 := Rat.mul_nonneg (show 0 ≤ a - x by grind) (show 0 ≤ c - y by grind)
  have p4 := Rat.mul_nonneg (show 0 ≤ a + x by grind) (show 0 ≤ c + y by grind)
  grind
theorem zl_B {z : Int} {e : Nat} (h : zl z ≤ e) : -(B e) < z ∧ z < B e := by
  have h1 := lt_B_lim z.natAbs
  have h2 := B_mono (show lim z.natAbs ≤ e from h)
  omega
theorem B_zl {z : Int} {e : Nat} (h : -(B e) ≤ z) (h2 : z ≤ B e) : zl z ≤ e + 1 := by
  unfold zl
  refine lim_le ?_
  have := B_pos e
  rw [B_succ]
  omega
theorem Rb.int {z : Int} {e : Nat} (h : zl z ≤ e) : Rb (z : Rat) e := by
  have := zl_B h
  unfold Rb
  rw [← Rat.intCast_neg, Rat.intCast_le_intCast, Rat.intCast_le_intCast]
  omega
theorem Rb.frac {a b : Int} {e : Nat} (h : zl a ≤ e) (hb : 0 < b) : Rb ((a : Rat) / (b : Rat)) e := by
  have h1 := zl_B h
  have hp := B_pos e
  have hm := Int.mul_le_mul_of_nonneg_left (show 1 ≤ b by omega) (show 0 ≤ B e by omega)
  refine ⟨?_, Rat.le_of_lt ?_⟩
  · rw [← Rat.intCast_neg, rle_div hb, Int.neg_mul]
    omega
  · rw [Rat.div_lt_iff (Rat.intCast_pos.2 hb), ← Rat.intCast_mul, Rat.intCast_lt_intCast]
    omega
/-- A whole number of such a size. -/
theorem Rb.zl {z : Int} {e : Nat} (h : Rb (z : Rat) e) : zl z ≤ e + 1 := by
  unfold Rb at h
  rw [← Rat.intCast_neg, Rat.intCast_le_intCast, Rat.intCast_le_intCast] at h
  exact B_zl h.1 h.2
theorem nea_Rb {c : Rat} {e : Nat} (h : Rb c e) : Rb ((nea c : Int) : Rat) (e + 1) := by
  have h1 := nea_b c
  have h2 := B_r2 e
  have h3 := B_rp e
  unfold Rb at *
  generalize ((nea c : Int) : Rat) = x at *
  generalize ((B e : Int) : Rat) = a at *
  generalize ((B (e + 1) : Int) : Rat) = b at *
  grind
/-- How far the k-th number is from the nearest. -/
theorem nth_far (c : Rat) (j : Nat) : nth c j = nea c + (((j + 1) / 2 : Nat) : Int) ∨ nth c j = nea c - (((j + 1) / 2 : Nat) : Int) := by
  unfold nth
  split
  · exact .inl rfl
  · exact .inr rfl
theorem nth_zl {c : Rat} {e j : Nat} (h : Rb c e) (hj : (((j + 1) / 2 : Nat) : Int) ≤ B (e + 1)) : zl (nth c j) ≤ e + 3 := by
  have h1 := nea_Rb h
  have h2 : Rb (((((j + 1) / 2 : Nat) : Int)) : Rat) (e + 1) := by
    have := B_pos (e + 1)
    unfold Rb
    rw [← Rat.intCast_neg, Rat.intCast_le_intCast, Rat.intCast_le_intCast]
    omega
  rcases nth_far c j with h3 | h3 <;> rw [h3]
  · have := Rb.add h1 h2
    rw [← Rat.intCast_add] at this
    exact Rb.zl this
  · have := Rb.sub h1 h2
    rw [← Rat.intCast_sub] at this
    exact Rb.zl this
theorem tq_Rb {D : List Int} {L : List (List Int)} {ts : List (Int × Int)} {n k : Nat} (h : TrS D L ts n k) {i : Nat} (hi : i < n) : Rb (aqT ts i) k := by
  unfold aqT
  split
  · exact Rb.mono (Rb.int (z := 0) (e := 0) (by rw [zl_zero]; exact Nat.le_refl _)) (Nat.zero_le _)
  · rename_i h0
    rcases h.tl with h1 | h1
    · exact absurd h1 h0
    · exact Rb.frac (h.zt i (by omega)).1 (h.tp i (by omega))
theorem ct_Rb {D : List Int} {L : List (List Int)} {ts : List (Int × Int)} {n k : Nat} (h : TrS D L ts n k) {s : List Int} {b : Nat} (hkb : k ≤ b) (hs : ∀ j, zl (s.getD j 0) ≤ b) {m i : Nat} (hm : m + 1 = n) : ∀ {c : Nat}, i + c ≤ m → Rb (ctT D L ts s m i c) (b + k + 2 + c)
  | 0, hc => Rb.mono (tq_Rb h (by omega)) (by omega)
  | c + 1, hc => by
    have h1 := ct_Rb h hkb hs hm (i := i) (c := c) (by omega)
    have h2 := Rb.mul (Rb.sub (Rb.int (hs c)) (Rb.mono (tq_Rb h (i := m - c) (by omega)) hkb)) (Rb.frac (h.zL i (m - c)) (h.dp (i := i + 1) (by omega)))
    exact Rb.sub h1 (Rb.mono (f := b + k + 2 + c) h2 (by omega))
/-- A part within the bound: the number is near. -/
theorem near_Rb {D : List Int} {L : List (List Int)} {ts : List (Int × Int)} {n k : Nat} (h : TrS D L ts n k) {i : Nat} (hi : i < n) {p R y : Rat} (hp : 0 ≤ p) (hR : Rb R k) (hw : p + y * y * stq D i ≤ R) : Rb y (2 * k) := by
  have d0 := h.dp (i := i) (by omega)
  have d1 := h.dp (i := i + 1) (by omega)
  have z0 := zl_B (h.zD i)
  have h0 : (0 : Rat) < ((D.getD i 0 : Int) : Rat) := Rat.intCast_pos.2 d0
  have h1 : (1 : Rat) ≤ ((D.getD (i + 1) 0 : Int) : Rat) := by
    rw [show (1 : Rat) = ((1 : Int) : Rat) from rfl, Rat.intCast_le_intCast]; omega
  have h2 : ((D.getD i 0 : Int) : Rat) ≤ ((B k : Int) : Rat) := Rat.intCast_le_intCast.2 (by omega)
  have hb1 := B_rp k
  have hb2 := B_rmul k k
  have hst : stq D i * ((D.getD i 0 : Int) : Rat) = ((D.getD (i + 1) 0 : Int) : Rat) := by
    unfold stq
    generalize ((D.getD i 0 : Int) : Rat) = x at *
    grind
  have hR2 := hR.2
  rw [show 2 * k = k + k by omega]
  unfold Rb
  rw [hb2]
  generalize stq D i = st at *
  generalize ((D.getD i 0 : Int) : Rat) = x at *
  generalize ((D.getD (i + 1) 0 : Int) : Rat) = x1 at *
  generalize ((B k : Int) : Rat) = b at *
  have hyy : 0 ≤ y * y := by
    rcases Rat.le_total (a := 0) (b := y) with h | h
    · exact Rat.mul_nonneg h h
    · have := Rat.mul_nonneg (show 0 ≤ -y by grind) (show 0 ≤ -y by grind)
      grind
  have q1 : y * y * st ≤ b := by grind
  have q2 : y * y * st * x ≤ b * x := Rat.mul_le_mul_of_nonneg_right q1 (Rat.le_of_lt h0)
  have q3 : y * y * st * x = y * y * x1 := by rw [← hst]; grind
  have q4 : 0 ≤ y * y * (x1 - 1) := Rat.mul_nonneg hyy (by grind)
  have q5 : 0 ≤ b * (b - x) := Rat.mul_nonneg (by grind) (by grind)
  have q6 : y * y ≤ b * b := by grind
  have q7 : 1 ≤ b * b := by
    have := Rat.mul_nonneg (show 0 ≤ b - 1 by grind) (show 0 ≤ b + 1 by grind)
    grind
  constructor
  · refine Rat.not_lt.1 fun hlt => ?_
    have := Rat.mul_nonneg (show 0 ≤ -y by grind) (show 0 ≤ -y - 1 by grind)
    grind
  · refine Rat.not_lt.1 fun hlt => ?_
    have := Rat.mul_nonneg (show 0 ≤ y by grind) (show 0 ≤ y - 1 by grind)
    grind
theorem least_not {P : Nat → Prop} : ∀ {n : Nat}, (¬ ∀ i, i < n → P i) → ∃ w, w < n ∧ ¬ P w ∧ ∀ i, i < w → P i
  | 0, h => absurd (fun i hi => absurd hi (Nat.not_lt_zero _)) h
  | n + 1, h => by
    classical
    by_cases h1 : ∀ i, i < n → P i
    · refine ⟨n, Nat.lt_succ_self _, fun hp => h fun i hi => ?_, h1⟩
      rcases Nat.lt_or_eq_of_le (Nat.le_of_lt_succ hi) with h2 | h2
      · exact h1 i h2
      · rw [h2]; exact hp
    · obtain ⟨w, k1, k2, k3⟩ := least_not h1
      exact ⟨w, by omega, k2, k3⟩
theorem stq_pos {D : List Int} {L : List (List Int)} {ts : List (Int × Int)} {n k : Nat} (h : TrS D L ts n k) {i : Nat} (hi : i < n) : 0 < stq D i := by
  have d0 := h.dp (i := i) (by omega)
  have d1 := h.dp (i := i + 1) (by omega)
  unfold stq
  rw [Rat.div_def]
  exact Rat.mul_pos (Rat.intCast_pos.2 d1) (Rat.inv_pos.2 (Rat.intCast_pos.2 d0))
theorem sq_nn (y : Rat) : 0 ≤ y * y := by
  rcases Rat.le_total (a := 0) (b := y) with h | h
  · exact Rat.mul_nonneg h h
  · have := Rat.mul_nonneg (show 0 ≤ -y by grind) (show 0 ≤ -y by grind)
    grind
theorem pt_nn {D : List Int} {L : List (List Int)} {ts : List (Int × Int)} {n k : Nat} (h : TrS D L ts n k) (s : List Int) {m : Nat} (hm : m + 1 = n) : ∀ {c : Nat}, c ≤ n → 0 ≤ ptT D L ts s m c
  | 0, _ => Rat.le_refl
  | c + 1, hc => by
    have h1 := pt_nn h s hm (c := c) (by omega)
    have h2 := Rat.mul_nonneg (sq_nn (((s.getD c 0 : Int) : Rat) - ctT D L ts s m (m - c) c)) (Rat.le_of_lt (stq_pos h (i := m - c) (by omega)))
    show 0 ≤ ptT D L ts s m c + _
    grind
theorem getD_snoc' {s : List Int} {x : Int} (j : Nat) : (s ++ [x]).getD j 0 = if j = s.length then x else s.getD j 0 := by
  simp only [List.getD_eq_getElem?_getD, List.getElem?_append]
  by_cases h : j < s.length
  · rw [if_pos h, if_neg (by omega)]
  · rw [if_neg h]
    by_cases h2 : j = s.length
    · rw [if_pos h2, h2]; simp
    · rw [if_neg h2, List.getElem?_eq_none (by simp; omega), List.getElem?_eq_none (by omega)]
theorem pt_snoc' (D : List Int) (L : List (List Int)) (ts : List (Int × Int)) (s : List Int) (m : Nat) (x : Int) : ptT D L ts (s ++ [x]) m (s.length + 1) = ptT D L ts s m s.length + ((x : Rat) - ctT D L ts s m (m - s.length) s.length) * ((x : Rat) - ctT D L ts s m (m - s.length) s.length) * stq D (m - s.length) := by
  show ptT D L ts (s ++ [x]) m s.length + _ = _
  have e1 : ptT D L ts (s ++ [x]) m s.length = ptT D L ts s m s.length := ptT_ext fun j hj => by rw [getD_snoc', if_neg (by omega)]
  have e2 : ctT D L ts (s ++ [x]) m (m - s.length) s.length = ctT D L ts s m (m - s.length) s.length := ctT_ext fun j hj => by rw [getD_snoc', if_neg (by omega)]
  rw [e1, e2, getD_snoc', if_pos rfl]
/-- How many children are nodes, and how large they are. -/
theorem kids_ex {D : List Int} {L : List (List Int)} {ts : List (Int × Int)} {n k : Nat} (h : TrS D L ts n k) {s : List Int} {b : Nat} (hkb : k ≤ b) (hs : ∀ j, zl (s.getD j 0) ≤ b) (hl : s.length < n) {R : Rat} (hR : Rb R k) :
    ∃ m, (∀ j, j ≤ m → zl (nth (ctT D L ts s (n - 1) (n - 1 - s.length) s.length) j) ≤ b + k + 20) ∧ (∀ j, j < m → ptT D L ts (s ++ [nth (ctT D L ts s (n - 1) (n - 1 - s.length) s.length) j]) (n - 1) (s.length + 1) ≤ R) ∧ ¬ ptT D L ts (s ++ [nth (ctT D L ts s (n - 1) (n - 1 - s.length) s.length) m]) (n - 1) (s.length + 1) ≤ R := by
  have hn := h.twelve
  have hc := Rb.mono (ct_Rb h hkb hs (m := n - 1) (i := n - 1 - s.length) (c := s.length) (by omega) (by omega)) (show _ ≤ b + k + 13 by omega)
  have hp := pt_nn h s (m := n - 1) (c := s.length) (by omega) (by omega)
  generalize hcc : ctT D L ts s (n - 1) (n - 1 - s.length) s.length = c at *
  -- a node's number is near
  have near : ∀ j, ptT D L ts (s ++ [nth c j]) (n - 1) (s.length + 1) ≤ R → (((j + 1) / 2 : Nat) : Int) ≤ B (b + k + 15) := fun j hj => by
    rw [pt_snoc', hcc] at hj
    have h1 := Rb.mono (near_Rb h (i := n - 1 - s.length) (by omega) hp hR hj) (show 2 * k ≤ b + k + 13 by omega)
    have h2 := Rb.sub (Rb.add h1 hc) (nea_Rb hc)
    have e : ((nth c j : Int) : Rat) - c + c - ((nea c : Int) : Rat) = ((nth c j - nea c : Int) : Rat) := by rw [Rat.intCast_sub]; grind
    rw [e, show b + k + 13 + 1 + 1 = b + k + 15 by omega] at h2
    unfold Rb at h2
    rw [← Rat.intCast_neg, Rat.intCast_le_intCast, Rat.intCast_le_intCast] at h2
    rcases nth_far c j with h3 | h3 <;> rw [h3] at h2 <;> omega
  have hbp := B_pos (b + k + 15)
  have hex : ¬ ∀ j, j < 2 * (B (b + k + 15)).toNat + 2 → ptT D L ts (s ++ [nth c j]) (n - 1) (s.length + 1) ≤ R := fun hall => by
    have := near (2 * (B (b + k + 15)).toNat + 1) (hall _ (by omega))
    omega
  obtain ⟨m, h1, h2, h3⟩ := least_not hex
  refine ⟨m, fun j hj => ?_, h3, h2⟩
  have hj2 : (((j + 1) / 2 : Nat) : Int) ≤ B (b + k + 16) := by
    rw [show b + k + 16 = b + k + 15 + 1 by omega, B_succ]
    omega
  exact Nat.le_trans (nth_zl (e := b + k + 15) (Rb.mono hc (by omega)) hj2) (by omega)
/-- Each suffix has its nodes. -/
theorem Bel.ex {D : List Int} {L : List (List Int)} {ts : List (Int × Int)} {n k K : Nat} (h : TrS D L ts n k) (hK : k + 12 * (k + 20) ≤ K) {R : Rat} (hR : Rb R k) : ∀ (r : Nat) {s : List Int} {d : Nat}, s.length = d → d + r = n → (∀ j, zl (s.getD j 0) ≤ k + d * (k + 20)) → ∃ ns, Bel D L ts n K R s d ns
  | 0, s, d, hs, hd, hz => ⟨[], by rw [show d = n by omega]; exact Bel.leaf s⟩
  | r + 1, s, d, hs, hd, hz => by
    have hn := h.twelve
    obtain ⟨m, h1, h2, h3⟩ := kids_ex h (s := s) (b := k + d * (k + 20)) (by omega) hz (by omega) hR
    rw [hs] at h1 h2 h3
    have e1 : (d + 1) * (k + 20) = d * (k + 20) + (k + 20) := Nat.succ_mul _ _
    have e2 : (d + 1) * (k + 20) ≤ 12 * (k + 20) := Nat.mul_le_mul_right _ (by omega)
    have ih : ∀ j, ∃ ns, j < m → Bel D L ts n K R (s ++ [nth (ctT D L ts s (n - 1) (n - 1 - d) d) j]) (d + 1) ns := fun j => by
      rcases Nat.lt_or_ge j m with hj | hj
      · obtain ⟨ns, hb⟩ := Bel.ex h hK hR r (s := s ++ [nth (ctT D L ts s (n - 1) (n - 1 - d) d) j]) (d := d + 1) (by simp [hs]) (by omega) (fun i => by
          rw [getD_snoc']
          split
          · have := h1 j (by omega); omega
          · have := hz i; omega)
        exact ⟨ns, fun _ => hb⟩
      · exact ⟨[], fun h => by omega⟩
    exact ⟨_, Bel.node s d m (fun j => Classical.choose (ih j)) (by omega) (fun j hj => by have := h1 j hj; omega) h2 h3 (fun j hj => Classical.choose_spec (ih j) hj)⟩
end Go.Proofs.YtekghdfbhbhigaaGreat.V
/- The nodes of a search tree: each begins with its suffix, each follows the one ahead of it. -/
set_option linter.unusedVariables false
set_option maxRecDepth 100000
namespace Go.Proofs.YtekghdfbhbhigaaGreat.V
open Go.RowKit Mt Nml
theorem fl_mem {s : List Int} {x : Nat → Int} {LL : Nat → List (List Int)} {q : List Int} : ∀ {m : Nat}, q ∈ fl s x LL m → ∃ j, j < m ∧ (q = s ++ [x j] ∨ q ∈ LL j)
  | 0, h => by cases h
  | m + 1, h => by
    rcases List.mem_append.1 h with h | h
    · obtain ⟨j, h1, h2⟩ := fl_mem h
      exact ⟨j, by omega, h2⟩
    · rcases List.mem_cons.1 h with h | h
      · exact ⟨m, by omega, .inl h⟩
      · exact ⟨m, by omega, .inr h⟩
/-- What is so of a node below s. -/
structure Nd (D : List Int) (L : List (List Int)) (ts : List (Int × Int)) (n k : Nat) (R : Rat) (s q : List Int) : Prop where
  gt : s.length < q.length
  le : q.length ≤ n
  zl : ∀ j, zl (q.getD j 0) ≤ k
  pt : ptT D L ts q (n - 1) q.length ≤ R
  bg : ∀ j, j < s.length → q.getD j 0 = s.getD j 0
theorem Bel.mem {D : List Int} {L : List (List Int)} {ts : List (Int × Int)} {n k : Nat} {R : Rat} {s : List Int} {d : Nat} {ns : List (List Int)} (h : Bel D L ts n k R s d ns) : s.length = d → (∀ j, Nml.zl (s.getD j 0) ≤ k) → ∀ q ∈ ns, Nd D L ts n k R s q := by
  induction h with
  | leaf s => exact fun _ _ q hq => by cases hq
  | node s d m LL hd hz hw hn hB ih =>
    intro hs hzs q hq
    subst hs
    obtain ⟨j, hj, h1 | h1⟩ := fl_mem hq
    · subst h1
      refine ⟨by simp, by simp; omega, fun i => ?_, ?_, fun i hi => ?_⟩
      · rw [getD_snoc']
        split
        · exact hz j (by omega)
        · exact hzs i
      · have := hw j hj
        rwa [show (s ++ [nth (ctT D L ts s (n - 1) (n - 1 - s.length) s.length) j]).length = s.length + 1 by simp]
      · rw [getD_snoc', if_neg (by omega)]
    · have h2 := ih j hj (by simp) (fun i => by
        rw [getD_snoc']
        split
        · exact hz j (by omega)
        · exact hzs i) q h1
      have h3 := h2.gt
      simp only [List.length_append, List.length_cons, List.length_nil] at h3
      refine ⟨by omega, h2.le, h2.zl, h2.pt, fun i hi => ?_⟩
      rw [h2.bg i (by simp; omega), getD_snoc', if_neg (by omega)]
/-- q may stand behind p. -/
def Lnk (p q : List Int) : Prop := q.length ≤ p.length + 1 ∧ 0 < q.length ∧ ∀ j, j + 1 < q.length → q.getD j 0 = p.getD j 0
def Chn : List Int → List (List Int) → Prop
  | _, [] => True
  | p, q :: r => Lnk p q ∧ Chn q r
def lastN (p : List Int) : List (List Int) → List Int
  | [] => p
  | q :: r => lastN q r
theorem lastN_mem {p : List Int} : ∀ {l : List (List Int)}, lastN p l = p ∨ lastN p l ∈ l
  | [] => .inl rfl
  | q :: r => by
    rcases lastN_mem (p := q) (l := r) with h | h
    · exact .inr (by show lastN q r ∈ _; rw [h]; exact List.mem_cons_self)
    · exact .inr (List.mem_cons_of_mem _ h)
theorem chn_append {p : List Int} {b : List (List Int)} : ∀ {a : List (List Int)}, Chn p a → Chn (lastN p a) b → Chn p (a ++ b)
  | [], _, h => h
  | q :: r, h, k => ⟨h.1, chn_append (a := r) h.2 k⟩
theorem chn_at {p : List Int} : ∀ {l : List (List Int)}, Chn p l → ∀ i, i < l.length → Lnk (if i = 0 then p else l.getD (i - 1) []) (l.getD i [])
  | [], _, i, hi => absurd hi (Nat.not_lt_zero _)
  | q :: r, h, 0, _ => h.1
  | q :: r, h, i + 1, hi => by
    have := chn_at (p := q) (l := r) h.2 i (by simp at hi; omega)
    rw [if_neg (by omega)]
    show Lnk ((q :: r).getD i []) (r.getD i [])
    cases i with
    | zero => exact this
    | succ i => exact this
theorem Bel.chn {D : List Int} {L : List (List Int)} {ts : List (Int × Int)} {n k : Nat} {R : Rat} {s : List Int} {d : Nat} {ns : List (List Int)} (h : Bel D L ts n k R s d ns) : s.length = d → (∀ j, Nml.zl (s.getD j 0) ≤ k) → Chn s ns := by
  induction h with
  | leaf s => exact fun _ _ => trivial
  | node s d m LL hd hz hw hn hB ih =>
    intro hs hzs
    subst hs
    have key : ∀ m', m' ≤ m → Chn s (fl s (nth (ctT D L ts s (n - 1) (n - 1 - s.length) s.length)) LL m') := by
      intro m'
      induction m' with
      | zero => exact fun _ => trivial
      | succ m' ih' =>
        intro hm'
        have hzn : ∀ i, Nml.zl ((s ++ [nth (ctT D L ts s (n - 1) (n - 1 - s.length) s.length) m']).getD i 0) ≤ k := fun i => by
          rw [getD_snoc']
          split
          · exact hz m' (by omega)
          · exact hzs i
        refine chn_append (ih' (by omega)) ⟨?_, ih m' (by omega) (by simp) hzn⟩
        have hb : s.length ≤ (lastN s (fl s (nth (ctT D L ts s (n - 1) (n - 1 - s.length) s.length)) LL m')).length ∧ ∀ j, j < s.length → (lastN s (fl s (nth (ctT D L ts s (n - 1) (n - 1 - s.length) s.length)) LL m')).getD j 0 = s.getD j 0 := by
          rcases lastN_mem (p := s) (l := fl s (nth (ctT D L ts s (n - 1) (n - 1 - s.length) s.length)) LL m') with h1 | h1
          · rw [h1]; exact ⟨Nat.le_refl _, fun _ _ => rfl⟩
          · obtain ⟨j, hj, h2 | h2⟩ := fl_mem h1
            · rw [h2]
              exact ⟨by simp, fun i hi => by rw [getD_snoc', if_neg (by omega)]⟩
            · have h3 := Bel.mem (hB j (by omega)) (by simp) (fun i => by
                rw [getD_snoc']
                split
                · exact hz j (by omega)
                · exact hzs i) _ h2
              have h4 := h3.gt
              simp only [List.length_append, List.length_cons, List.length_nil] at h4
              exact ⟨by omega, fun i hi => by rw [h3.bg i (by simp; omega), getD_snoc', if_neg (by omega)]⟩
        refine ⟨by simp; omega, by simp, fun j hj => ?_⟩
        simp only [List.length_append, List.length_cons, List.length_nil] at hj
        rw [getD_snoc', if_neg (by omega), hb.2 j (by omega)]
    exact key m (Nat.le_refl _)
end Go.Proofs.YtekghdfbhbhigaaGreat.V
/- A walk through a search tree without recursion: which node comes behind another one. -/
set_option linter.unusedVariables false
set_option maxRecDepth 100000
namespace Go.Proofs.YtekghdfbhbhigaaGreat.V
open Go.RowKit Mt Nml
section
variable (D : List Int) (L : List (List Int)) (ts : List (Int × Int)) (n k : Nat) (R : Rat) (r : Nat)
/-- A suffix within the bound; its centre. -/
def Wi (q : List Int) : Prop := ptT D L ts q (n - 1) q.length ≤ R
def cq_ (q : List Int) : Rat := ctT D L ts q (n - 1) (n - 1 - q.length) q.length
/-- What comes behind a suffix and all below it: no higher than r numbers. -/
inductive Ov : List Int → Option (List Int) → Prop
  | stop (q : List Int) : q.length ≤ r → Ov q none
  | go (q : List Int) (x : Int) : r < q.length + 1 → zl (bhd (cq_ D L ts n q) x) ≤ k → Wi D L ts n R (q ++ [bhd (cq_ D L ts n q) x]) → Ov (q ++ [x]) (some (q ++ [bhd (cq_ D L ts n q) x]))
  | up (q : List Int) (x : Int) (res : Option (List Int)) : r < q.length + 1 → zl (bhd (cq_ D L ts n q) x) ≤ k → ¬ Wi D L ts n R (q ++ [bhd (cq_ D L ts n q) x]) → Ov q res → Ov (q ++ [x]) res
/-- What comes behind a suffix. -/
def Dn (q : List Int) (res : Option (List Int)) : Prop := (q.length < n ∧ zl (nea (cq_ D L ts n q)) ≤ k ∧ Wi D L ts n R (q ++ [nea (cq_ D L ts n q)]) ∧ res = some (q ++ [nea (cq_ D L ts n q)])) ∨ (q.length < n ∧ zl (nea (cq_ D L ts n q)) ≤ k ∧ ¬ Wi D L ts n R (q ++ [nea (cq_ D L ts n q)]) ∧ Ov D L ts n k R r q res) ∨ (¬ q.length < n ∧ Ov D L ts n k R r q res)
/-- These come one behind another, then res. -/
def Rn : List Int → List (List Int) → Option (List Int) → Prop
  | p, [], res => Dn D L ts n k R r p res
  | p, q :: l, res => Dn D L ts n k R r p (some q) ∧ Rn q l res
end
section
variable {D : List Int} {L : List (List Int)} {ts : List (Int × Int)} {n k : Nat} {R : Rat} {r : Nat}
theorem Ov.inv {c : List Int} {res : Option (List Int)} (h : Ov D L ts n k R r c res) : (c.length ≤ r ∧ res = none) ∨ ∃ q x, c = q ++ [x] ∧ r < q.length + 1 ∧ zl (bhd (cq_ D L ts n q) x) ≤ k ∧ ((Wi D L ts n R (q ++ [bhd (cq_ D L ts n q) x]) ∧ res = some (q ++ [bhd (cq_ D L ts n q) x])) ∨ (¬ Wi D L ts n R (q ++ [bhd (cq_ D L ts n q) x]) ∧ Ov D L ts n k R r q res)) := by
  cases h with
  | stop q h => exact .inl ⟨h, rfl⟩
  | go q x h1 h2 h3 => exact .inr ⟨q, x, rfl, h1, h2, .inl ⟨h3, rfl⟩⟩
  | up q x res h1 h2 h3 h4 => exact .inr ⟨q, x, rfl, h1, h2, .inr ⟨h3, h4⟩⟩
theorem rn_append {res : Option (List Int)} {q : List Int} {b : List (List Int)} : ∀ {p : List Int} {a : List (List Int)}, Rn D L ts n k R r p a (some q) → Rn D L ts n k R r q b res → Rn D L ts n k R r p (a ++ q :: b) res
  | p, [], h, k => ⟨h, k⟩
  | p, x :: a, h, k => ⟨h.1, rn_append (p := x) (a := a) h.2 k⟩
theorem Bel.run {s : List Int} {d : Nat} {ns : List (List Int)} (h : Bel D L ts n k R s d ns) : s.length = d → r ≤ d → ∀ {res : Option (List Int)}, Ov D L ts n k R r s res → Rn D L ts n k R r s ns res := by
  induction h with
  | leaf s => exact fun hs hr res ho => .inr (.inr ⟨fun h => by omega, ho⟩)
  | node s d m LL hd hz hw hn hB ih =>
    intro hs hr res ho
    subst hs
    have hwi : ∀ x : Int, Wi D L ts n R (s ++ [x]) ↔ ptT D L ts (s ++ [x]) (n - 1) (s.length + 1) ≤ R := fun x => by unfold Wi; rw [show (s ++ [x]).length = s.length + 1 by simp]
    have hc : cq_ D L ts n s = ctT D L ts s (n - 1) (n - 1 - s.length) s.length := rfl
    have key : ∀ m', m' ≤ m → ∀ res', (m' = 0 → Dn D L ts n k R r s res') → (∀ j, m' = j + 1 → Ov D L ts n k R r (s ++ [nth (ctT D L ts s (n - 1) (n - 1 - s.length) s.length) j]) res') → Rn D L ts n k R r s (fl s (nth (ctT D L ts s (n - 1) (n - 1 - s.length) s.length)) LL m') res' := by
      intro m'
      induction m' with
      | zero => exact fun _ res' h0 _ => h0 rfl
      | succ m' ih' =>
        intro hm' res' _ h1
        refine rn_append (ih' (by omega) _ (fun h0 => ?_) (fun j hj => ?_)) (ih m' (by omega) (by simp) (by omega) (h1 m' rfl))
        · subst h0
          have := (hwi _).2 (hw 0 (by omega))
          have h9 := hz 0 (by omega)
          rw [nth_zero] at this h9 ⊢
          exact .inl ⟨hd, h9, this, rfl⟩
        · subst hj
          have := (hwi _).2 (hw (j + 1) (by omega))
          have h9 := hz (j + 1) (by omega)
          rw [← bhd_nth] at this h9 ⊢
          exact Ov.go s _ (by omega) h9 this
    refine key m (Nat.le_refl _) res (fun h0 => ?_) (fun j hj => ?_)
    · subst h0
      have h9 := hz 0 (by omega)
      rw [nth_zero] at h9
      refine .inr (.inl ⟨hd, h9, fun h => hn ?_, ho⟩)
      rw [nth_zero]
      exact (hwi _).1 h
    · subst hj
      have h9 := hz (j + 1) (by omega)
      rw [← bhd_nth] at h9
      refine Ov.up s _ res (by omega) h9 (fun h => hn ?_) ho
      rw [← bhd_nth]
      exact (hwi _).1 h
end
end Go.Proofs.YtekghdfbhbhigaaGreat.V
