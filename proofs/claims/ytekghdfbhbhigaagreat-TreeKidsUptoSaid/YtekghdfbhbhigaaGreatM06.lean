/- Search trees: iterators. -/
import Derived.Test.YtekghdfbhbhigaaGreatM05
set_option linter.unusedVariables false
set_option linter.unusedSimpArgs false
set_option maxRecDepth 100000
namespace Go.Proofs.YtekghdfbhbhigaaGreat.V
open Go.RowKit Mt Nml
theorem tyYc : Ty Tryz.prog 160 false 1 := ⟨by kernel_rfl, by kernel_rfl⟩
theorem tyYs : Ty Tryz.prog 167 false 1 := ⟨by kernel_rfl, by kernel_rfl⟩
theorem tyCh : Ty Tryz.prog 109 true 6 := ⟨by kernel_rfl, by kernel_rfl⟩
theorem fChx : FieldT Tryz.prog 109 0 0 true 2 := FieldT.mk' tyZ
theorem fChp : FieldT Tryz.prog 109 1 2 true 4 := FieldT.mk' tyQ
abbrev T.Y (l : Nat) : T := T.c (.func (.yield l) #[] #[])
/-- A child: a number, a part. -/
abbrev T.Ch (x : Int) (k : Nat) (q : Rat) (m : Nat) : T := T.st [T.Z x k, T.Q q m]
theorem cq_le {x y : Rat} : cq x y ≤ 0 ↔ x ≤ y := by
  unfold cq
  by_cases h : x < y
  · rw [if_pos h]; exact ⟨fun _ => Rat.le_of_lt h, fun _ => by decide⟩
  · rw [if_neg h]
    by_cases h2 : y < x
    · rw [if_pos h2]; exact ⟨fun h => absurd h (by decide), fun h => absurd h (Rat.not_le.2 h2)⟩
    · rw [if_neg h2]; exact ⟨fun _ => Rat.not_lt.1 h2, fun _ => by decide⟩

theorem t_zig1 {l : Nat} {Z : Nat → Ent0} {zf : Ent0} {c : Rat} {k kx K : Nat} (hk : k ≤ 1073741824) (hkx : kx ≤ 1073741824) (hz : ∀ j, j ≤ K → zl (nth c j) ≤ kx) (hY : ∀ j, j < K → YOk Tryz.prog l (T.Z (nth c j) kx) (Z j) true (Z (j + 1))) (hf : YOk Tryz.prog l (T.Z (nth c K) kx) (Z K) false zf) : Fn Tryz.prog 164 [T.Y l, T.fp (T.V c k)] [(700, Ent.ab (Z 0))] [(700, Ent.ab zf)] [] (T.tup []) := by
  refine fn_of Tryz.func164 rfl (by show 2 ≤ 16; decide) fun cx hcx => ?_
  refine tri_sub (sl 0 rfl (sl 1 rfl sn)) (el 700 rfl en) ?_
  refine tri_seq ?_
  refine tri_reg mixed hcx ?_ _ _
  refine lf rfl tyQ ?_
  refine cb rfl (h := rv_Near (by omega)) (hn := ?_)
  refine mv rfl ?_
  refine ex rfl rfl ?_
  refine ex rfl rfl ?_
  refine nw 15 zeZ ?_
  refine st rfl rfl rfl tyZ rfl ?_
  refine asg rfl ?_
  refine ⟨by kernel_rfl, ?_⟩
  refine nx (sl 0 rfl (sl 1 rfl (sl 3 rfl sn))) (el 700 rfl (el 15 rfl en)) ?_
  refine tri_block ?_
  refine tri_loop (ι := Nat) (fun j => [(0, T.Y l), (1, T.fp (T.V c k)), (3, T.p 15 0)]) (fun j => [(15, some (Ent.box 32 [T.Z (nth c j) kx])), (700, some (Ent.ab (Z j)))]) (fun j => K - j) (fun j => (j ≤ K)) 0 (Nat.zero_le _) (sl 0 rfl (sl 1 rfl (sl 3 rfl sn))) (ew 15 rfl (box_pack1 ((T.le.of (by rw [nth_zero])).trans (z_as (hz 0 (Nat.zero_le _))))) (el 700 rfl en)) ?_
  rintro j hj
  refine tri_sub (sl 0 rfl (sl 1 rfl (sl 3 rfl sn))) (el 15 rfl (el 700 rfl en)) ?_
  refine tri_seq ?_
  refine tri_seq ?_
  rcases Nat.lt_or_ge j K with hlt | hge
  · refine tri_reg mixed hcx ?_ _ _
    refine mv rfl ?_
    refine ld rfl rfl tyZ rfl ?_
    refine yd (e := 700) rfl rfl rfl (hY j hlt) (.refl _) ?_
    refine ⟨by kernel_rfl, ?_⟩
    refine nx (sl 0 rfl (sl 1 rfl (sl 3 rfl (sl 12 rfl sn)))) (el 15 rfl (el 700 rfl en)) ?_
    refine tri_true rfl rfl ?_
    refine tri_skip ?_
    refine nx (sl 0 rfl (sl 1 rfl (sl 3 rfl sn))) (el 15 rfl (el 700 rfl en)) ?_
    refine tri_block ?_
    refine tri_reg mixed hcx ?_ _ _
    refine lf rfl tyQ ?_
    refine ld rfl rfl tyZ rfl ?_
    refine cb rfl (h := t_behind (by omega) (by omega)) (hn := ?_)
    refine st rfl rfl rfl tyZ rfl ?_
    refine ⟨by kernel_rfl, ?_⟩
    refine pn_blk ?_
    exact pn_back (j + 1) (by first | omega | (dsimp only; omega)) (by omega) (sl 0 rfl (sl 1 rfl (sl 3 rfl sn))) (ew 15 rfl (box_pack1 ((T.le.of (by rw [bhd_nth])).trans (z_as (hz (j + 1) (by omega))))) (el 700 rfl en))
  · obtain rfl : j = K := by omega
    refine tri_reg mixed hcx ?_ _ _
    refine mv rfl ?_
    refine ld rfl rfl tyZ rfl ?_
    refine yd (e := 700) rfl rfl rfl (hf) (.refl _) ?_
    refine ⟨by kernel_rfl, ?_⟩
    refine nx (sl 0 rfl (sl 1 rfl (sl 3 rfl (sl 12 rfl sn)))) (el 15 rfl (el 700 rfl en)) ?_
    refine tri_false rfl rfl ?_
    refine tri_exit ?_
    repeat (first | refine pn_then ?_ | refine pn_oth (by decide) ?_)
    refine pn_ex ?_
    refine pn_off ?_
    exact ret0 hcx rfl  (.refl _) (el 700 rfl en)

theorem t_zig {c : Rat} {k : Nat} : Fn Tryz.prog 122 [T.V c k] [] [] [] (T.fn 164 [T.fp (T.V c k)]) := by
  refine fn_of Tryz.func122 rfl (by show 1 ≤ 4; decide) fun cx hcx => ?_
  refine tri_sub (sl 0 rfl sn) en ?_
  refine tri_seq ?_
  refine tri_reg mixed hcx ?_ _ _
  refine bx 10 rfl ?_
  refine asg rfl ?_
  refine ⟨by kernel_rfl, ?_⟩
  refine nx (sl 1 rfl sn) (el 10 rfl en) ?_
  refine tri_seq ?_
  refine tri_fzb 1 10 rfl rfl (fun h => Nat.noConfusion h) ?_
  refine tri_as 1 (Z := T.fp (T.V c k)) rfl (fp_st1) ?_
  refine tri_reg mixed hcx ?_ _ _
  refine mf rfl ?_
  refine asg rfl ?_
  refine ⟨by kernel_rfl, ?_⟩
  refine nx (sl 2 rfl sn) en ?_
  refine tri_ret ?_
  repeat (first | refine pn_thenr ?_ | refine pn_blkr ?_)
  exact ret1 hcx rfl (rv_tmp rfl) (.refl _) en

theorem t_within {D : List Int} {L : List (List Int)} {ts : List (Int × Int)} {a b : Int} {k : Nat} {p : Rat} {kp : Nat} (hb : 0 < b) (hk : k ≤ 16777216) (hkp : kp ≤ 17179869184) : Fn Tryz.prog 64 [T.Tr D L ts a b k, T.V p kp] [] [] [] (T.c (.bool (decide (p ≤ (a : Rat) / (b : Rat))))) := by
  refine fn_of Tryz.func64 rfl (by show 2 ≤ 16; decide) fun cx hcx => ?_
  refine tri_sub (sl 0 rfl (sl 1 rfl sn)) en ?_
  refine tri_seq ?_
  refine tri_reg mixed hcx ?_ _ _
  refine bxs 10 rfl ?_
  refine bx 11 rfl ?_
  refine asg rfl ?_
  refine ⟨by kernel_rfl, ?_⟩
  refine nx (sl 2 rfl (sl 3 rfl sn)) (el 10 rfl (el 11 rfl en)) ?_
  refine tri_seq ?_
  refine tri_reg mixed hcx ?_ _ _
  refine ld rfl rfl tyQ rfl ?_
  refine fa rfl fTrR 3 ?_
  refine ld rfl rfl tyQ rfl ?_
  refine cb rfl (h := rv_Cmp (by omega) (by omega)) (hn := ?_)
  refine mv rfl ?_
  refine ex rfl rfl ?_
  refine ex rfl rfl ?_
  refine asg rfl ?_
  refine asg rfl ?_
  refine ⟨by kernel_rfl, ?_⟩
  refine nx (sl 5 rfl sn) (el 10 rfl (el 11 rfl en)) ?_
  refine tri_seq ?_
  refine tri_reg mixed hcx ?_ _ _
  refine mv rfl ?_
  refine cle rfl rfl rfl ?_
  refine asg rfl ?_
  refine ⟨by kernel_rfl, ?_⟩
  refine nx (sl 4 rfl sn) (el 10 rfl (el 11 rfl en)) ?_
  refine tri_ret ?_
  repeat (first | refine pn_thenr ?_ | refine pn_blkr ?_)
  exact ret1 hcx rfl (rv_tmp rfl) (.of (by rw [decide_eq_decide.2 cq_le])) en

theorem stCh : StructT Tryz.prog 109 [T.c (.bool false), T.c (.slice none 0 0), T.c (.bool false), T.c (.slice none 0 0), T.c (.bool false), T.c (.slice none 0 0)] [(0, 2), (2, 4)] := StructT.mk' (zs := [.bool false, .slice none 0 0, .bool false, .slice none 0 0, .bool false, .slice none 0 0])
theorem zeCh : Zero Tryz.prog 109 [T.c (.bool false), T.c (.slice none 0 0), T.c (.bool false), T.c (.slice none 0 0), T.c (.bool false), T.c (.slice none 0 0)] := zero_of (zs := [.bool false, .slice none 0 0, .bool false, .slice none 0 0, .bool false, .slice none 0 0]) (z := .agg #[.bool false, .slice none 0 0, .bool false, .slice none 0 0, .bool false, .slice none 0 0]) (by kernel_rfl)
theorem getD_snoc {s : List Int} {x : Int} (j : Nat) : (s ++ [x]).getD j 0 = if j = s.length then x else s.getD j 0 := by
  simp only [List.getD_eq_getElem?_getD, List.getElem?_append]
  by_cases h : j < s.length
  · rw [if_pos h, if_neg (by omega)]
  · rw [if_neg h]
    by_cases h2 : j = s.length
    · rw [if_pos h2, h2]; simp
    · rw [if_neg h2, List.getElem?_eq_none (by simp; omega), List.getElem?_eq_none (by omega)]
/-- The part of a child. -/
theorem pt_snoc (D : List Int) (L : List (List Int)) (ts : List (Int × Int)) (s : List Int) (m : Nat) (x : Int) : ptT D L ts s m s.length + ((x : Rat) - ctT D L ts s m (m - s.length) s.length) * ((x : Rat) - ctT D L ts s m (m - s.length) s.length) * stq D (m - s.length) = ptT D L ts (s ++ [x]) m (s.length + 1) := by
  show _ = ptT D L ts (s ++ [x]) m s.length + _
  have e1 : ptT D L ts (s ++ [x]) m s.length = ptT D L ts s m s.length := ptT_ext fun j hj => by rw [getD_snoc, if_neg (by omega)]
  have e2 : ctT D L ts (s ++ [x]) m (m - s.length) s.length = ctT D L ts s m (m - s.length) s.length := ctT_ext fun j hj => by rw [getD_snoc, if_neg (by omega)]
  rw [e1, e2, getD_snoc, if_pos rfl]
theorem zl_snoc {s : List Int} {x : Int} {k : Nat} (h : ∀ j, zl (s.getD j 0) ≤ k) (hx : zl x ≤ k) (j : Nat) : zl ((s ++ [x]).getD j 0) ≤ k := by
  rw [getD_snoc]
  split
  · exact hx
  · exact h j

theorem t_kids1 {D : List Int} {L : List (List Int)} {ts : List (Int × Int)} {a b : Int} {n k : Nat} (h : TrS D L ts n k) {s : List Int} {l : Nat} {Z : Nat → Ent0} {zf : Ent0} {K : Nat} (hb : 0 < b) (hs : s.length + 1 ≤ n) (hz : ∀ j, zl (s.getD j 0) ≤ k) (hx : ∀ j, j ≤ K → zl (nth (ctT D L ts s (n - 1) (n - 1 - s.length) s.length) j) ≤ k) (hw : ∀ j, j < K → ptT D L ts (s ++ [nth (ctT D L ts s (n - 1) (n - 1 - s.length) s.length) j]) (n - 1) (s.length + 1) ≤ (a : Rat) / (b : Rat)) (hY : ∀ j, j < K → YOk Tryz.prog l (T.Ch (nth (ctT D L ts s (n - 1) (n - 1 - s.length) s.length) j) k (ptT D L ts (s ++ [nth (ctT D L ts s (n - 1) (n - 1 - s.length) s.length) j]) (n - 1) (s.length + 1)) 15100000000) (Z j) true (Z (j + 1))) (hf : (¬ ptT D L ts (s ++ [nth (ctT D L ts s (n - 1) (n - 1 - s.length) s.length) K]) (n - 1) (s.length + 1) ≤ (a : Rat) / (b : Rat) ∧ zf = Z K) ∨ (ptT D L ts (s ++ [nth (ctT D L ts s (n - 1) (n - 1 - s.length) s.length) K]) (n - 1) (s.length + 1) ≤ (a : Rat) / (b : Rat) ∧ YOk Tryz.prog l (T.Ch (nth (ctT D L ts s (n - 1) (n - 1 - s.length) s.length) K) k (ptT D L ts (s ++ [nth (ctT D L ts s (n - 1) (n - 1 - s.length) s.length) K]) (n - 1) (s.length + 1)) 15100000000) (Z K) false zf)) : Fn Tryz.prog 121 [T.Y l, T.fp (T.Tr D L ts a b k), T.fp (T.l (cZi k) s), T.fp (T.Q (ptT D L ts s (n - 1) s.length) 15100000000)] [(700, Ent.ab (Z 0))] [(700, Ent.ab zf)] [] (T.tup []) := by
  refine fn_ofM Tryz.func121 rfl (by show 4 ≤ 33; decide) fun cx hcx => ?_
  refine tri_sub (sl 0 rfl (sl 1 rfl (sl 2 rfl (sl 3 rfl sn)))) (el 700 rfl en) ?_
  have hn12 := h.twelve
  have hkk := h.hk
  have hlL := h.len
  have hn0 := h.pos
  have hnd : ∀ d, n - 1 - d = n - 1 - d := fun _ => rfl
  refine tri_seq ?_
  refine tri_reg mixed hcx ?_ _ _
  refine bx 10 rfl ?_
  refine ⟨by kernel_rfl, ?_⟩
  refine nx (sl 1 rfl (sl 2 rfl (sl 3 rfl (sl 4 rfl sn)))) (el 700 rfl (el 10 rfl en)) ?_
  refine tri_seq ?_
  refine tri_fzb 4 10 rfl rfl (fun h => Nat.noConfusion h) ?_
  refine tri_as 4 (Z := T.fp (T.Y l)) rfl (fp_st1) ?_
  refine tri_reg mixed hcx ?_ _ _
  refine lf rfl tyTr ?_
  refine lf rfl tyZs ?_
  refine ca rfl (h := t_centre h (by omega)) (hn := ?_)
  refine nw 113 zeQ ?_
  refine st rfl rfl rfl tyQ rfl ?_
  refine ⟨by kernel_rfl, ?_⟩
  refine nx (sl 1 rfl (sl 2 rfl (sl 3 rfl (sl 4 rfl (sl 5 rfl sn))))) (el 700 rfl (el 113 rfl en)) ?_
  refine tri_seq ?_
  refine tri_fzb 5 113 rfl rfl (fun h => Nat.noConfusion h) ?_
  refine tri_as 5 (Z := T.fp (T.Q (ctT D L ts s (n - 1) (n - 1 - s.length) s.length) 600000000)) rfl (fp_st1) ?_
  refine tri_reg mixed hcx ?_ _ _
  refine lf rfl tyQ ?_
  refine cb rfl (h := t_zig) (hn := ?_)
  refine ⟨by kernel_rfl, ?_⟩
  refine nx (sl 1 rfl (sl 2 rfl (sl 3 rfl (sl 4 rfl (sl 5 rfl (sl 12 rfl sn)))))) (el 700 rfl en) ?_
  refine tri_block ?_
  refine tri_range (ι := Nat) (κ := Unit) (f := 164) (Caps := [T.fp (T.V (ctT D L ts s (n - 1) (n - 1 - s.length) s.length) 600000000)]) (R := T.tup []) (g' := [(1, T.fp (T.Tr D L ts a b k)), (2, T.fp (T.l (cZi k) s)), (3, T.fp (T.Q (ptT D L ts s (n - 1) s.length) 15100000000)), (4, T.fp (T.Y l)), (5, T.fp (T.Q (ctT D L ts s (n - 1) (n - 1 - s.length) s.length) 600000000))]) (fun j => [(700, some (Ent.ab (Z j)))]) (fun _ => [(700, some (Ent.ab zf))]) (fun _ => .ret) (fun j X o => (j < K ∧ X = T.Z (nth (ctT D L ts s (n - 1) (n - 1 - s.length) s.length) j) k ∧ o = .inl (j + 1)) ∨ (j = K ∧ X = T.Z (nth (ctT D L ts s (n - 1) (n - 1 - s.length) s.length) j) k ∧ o = .inr ())) (0) (.inr ()) rfl hcx rfl (by intro a w; kernel_rfl) (by decide) (sl 1 rfl (sl 2 rfl (sl 3 rfl (sl 4 rfl (sl 5 rfl sn))))) (el 700 rfl en) ?_ ?_ ?_ ?_
  · intro lw W V hW
    exact t_zig1 (Z := W) (zf := V ()) (by omega) (by omega) hx (fun j hj => hW j _ (.inl (j + 1)) (.inl ⟨hj, rfl, rfl⟩)) (hW K _ (.inr ()) (.inr ⟨rfl, rfl, rfl⟩))
  · rintro j X o (⟨_, rfl, _⟩ | ⟨_, rfl, _⟩) <;> rfl
  · rintro lr dB rr c' hrd hdf hcx' j X o (⟨hj, rfl, rfl⟩ | ⟨hj, rfl, rfl⟩)
    · have hwj := hw j hj
      refine tri_reg mixed hcx' ?_ _ _
      refine nw 310 zeZ ?_
      refine st rfl rfl rfl tyZ rfl ?_
      refine ⟨by kernel_rfl, ?_⟩
      refine nx_begin hrd rfl (sl 1 rfl (sl 2 rfl (sl 3 rfl (sl 4 rfl (sl 5 rfl (sl 6 rfl sn)))))) (el 702 rfl (el 701 rfl (el 700 rfl (el 310 rfl en)))) ?_
      refine tri_block ?_
      refine tri_seq ?_
      refine tri_reg mixed hcx' ?_ _ _
      refine lf rfl tyTr ?_
      refine lf rfl tyQ ?_
      refine lf rfl tyQ ?_
      refine lf rfl tyZs ?_
      refine ln slZs rfl ?_
      refine ld rfl rfl tyZ rfl ?_
      refine cb rfl (h := t_grown h (by omega) (by omega) (by omega) (by omega)) (hn := ?_)
      refine nw 417 zeQ ?_
      refine st rfl rfl rfl tyQ rfl ?_
      refine ⟨by kernel_rfl, ?_⟩
      refine nx (sl 1 rfl (sl 4 rfl (sl 6 rfl (sl 7 rfl sn)))) (el 702 rfl (el 701 rfl (el 700 rfl (el 310 rfl (el 417 rfl en))))) ?_
      refine tri_seq ?_
      refine tri_sub (sl 1 rfl (sl 4 rfl (sl 6 rfl (sl 7 rfl sn)))) (el 702 rfl (el 701 rfl (el 700 rfl (el 310 rfl (ew 417 rfl (box_q (q_qb (by rw [hnd]; exact pt_snoc D L ts s (n - 1) (nth (ctT D L ts s (n - 1) (n - 1 - s.length) s.length) j)) (h.pt' (zl_snoc hz (hx j (by omega))) (m := n - 1) (by omega) (by omega)))) en))))) ?_
      refine tri_reg mixed hcx' ?_ _ _
      refine lf rfl tyTr ?_
      refine ld rfl rfl tyQ rfl ?_
      refine cb rfl (h := t_within hb (by omega) (by omega)) (hn := ?_)
      refine nt rfl _ (show (!decide _) = false from by rw [decide_eq_true hwj]; rfl) ?_
      refine mv rfl ?_
      refine lf rfl tyYc ?_ (hg := gd1)
      refine ld rfl rfl tyZ rfl ?_ (hg := gd1)
      refine ld rfl rfl tyQ rfl ?_ (hg := gd1)
      refine bu stCh rfl ?_ (hg := gd1)
      refine yd (e := 700) rfl rfl rfl (hY j hj) (.refl _) ?_ (hg := gd1)
      refine nt rfl _ rfl ?_ (hg := gd1)
      refine pk rfl rfl ?_
      refine ⟨by kernel_rfl, ?_⟩
      refine nx (sl 32 rfl sn) (el 702 rfl (el 701 rfl (el 700 rfl (el 310 rfl (el 417 rfl en))))) ?_
      refine tri_false rfl rfl ?_
      refine tri_skip ?_
      refine pn_blk ?_
      exact rq_go (el 702 rfl (el 701 rfl (el 700 rfl en)))
    · refine tri_reg mixed hcx' ?_ _ _
      refine nw 310 zeZ ?_
      refine st rfl rfl rfl tyZ rfl ?_
      refine ⟨by kernel_rfl, ?_⟩
      refine nx_begin hrd rfl (sl 1 rfl (sl 2 rfl (sl 3 rfl (sl 4 rfl (sl 5 rfl (sl 6 rfl sn)))))) (el 702 rfl (el 701 rfl (el 700 rfl (el 310 rfl en)))) ?_
      refine tri_block ?_
      refine tri_seq ?_
      refine tri_reg mixed hcx' ?_ _ _
      refine lf rfl tyTr ?_
      refine lf rfl tyQ ?_
      refine lf rfl tyQ ?_
      refine lf rfl tyZs ?_
      refine ln slZs rfl ?_
      refine ld rfl rfl tyZ rfl ?_
      refine cb rfl (h := t_grown h (by omega) (by omega) (by omega) (by omega)) (hn := ?_)
      refine nw 417 zeQ ?_
      refine st rfl rfl rfl tyQ rfl ?_
      refine ⟨by kernel_rfl, ?_⟩
      refine nx (sl 1 rfl (sl 4 rfl (sl 6 rfl (sl 7 rfl sn)))) (el 702 rfl (el 701 rfl (el 700 rfl (el 310 rfl (el 417 rfl en))))) ?_
      refine tri_seq ?_
      rcases hf with ⟨hn, hzf⟩ | ⟨hn, hyf⟩
      · rw [← hj] at hn
        refine tri_sub (sl 1 rfl (sl 4 rfl (sl 6 rfl (sl 7 rfl sn)))) (el 702 rfl (el 701 rfl (el 700 rfl (el 310 rfl (ew 417 rfl (box_q (q_qb (by rw [hnd]; exact pt_snoc D L ts s (n - 1) (nth (ctT D L ts s (n - 1) (n - 1 - s.length) s.length) j)) (h.pt' (zl_snoc hz (hx j (by omega))) (m := n - 1) (by omega) (by omega)))) en))))) ?_
        refine tri_reg mixed hcx' ?_ _ _
        refine lf rfl tyTr ?_
        refine ld rfl rfl tyQ rfl ?_
        refine cb rfl (h := t_within hb (by omega) (by omega)) (hn := ?_)
        refine nt rfl _ (show (!decide _) = true from by rw [decide_eq_false hn]; rfl) ?_
        refine mv rfl ?_
        refine j_off rfl rfl rfl rfl ?_
        refine j_off rfl rfl rfl rfl ?_
        refine j_off rfl rfl rfl rfl ?_
        refine j_off rfl rfl rfl rfl ?_
        refine j_off rfl rfl rfl rfl ?_
        refine j_off rfl rfl rfl rfl ?_
        refine pk rfl rfl ?_
        refine ⟨by kernel_rfl, ?_⟩
        refine nx (sl 32 rfl sn) (el 702 rfl (el 701 rfl (el 700 rfl (el 310 rfl (el 417 rfl en))))) ?_
        refine tri_true rfl rfl ?_
        refine tri_ret ?_
        repeat (first | refine pn_thenr ?_ | refine pn_blkr ?_)
        exact rq_ret (el 702 rfl (el 701 rfl (ew 700 rfl (.of (by rw [hzf, hj])) en)))
      · rw [← hj] at hn hyf
        refine tri_sub (sl 1 rfl (sl 4 rfl (sl 6 rfl (sl 7 rfl sn)))) (el 702 rfl (el 701 rfl (el 700 rfl (el 310 rfl (ew 417 rfl (box_q (q_qb (by rw [hnd]; exact pt_snoc D L ts s (n - 1) (nth (ctT D L ts s (n - 1) (n - 1 - s.length) s.length) j)) (h.pt' (zl_snoc hz (hx j (by omega))) (m := n - 1) (by omega) (by omega)))) en))))) ?_
        refine tri_reg mixed hcx' ?_ _ _
        refine lf rfl tyTr ?_
        refine ld rfl rfl tyQ rfl ?_
        refine cb rfl (h := t_within hb (by omega) (by omega)) (hn := ?_)
        refine nt rfl _ (show (!decide _) = false from by rw [decide_eq_true hn]; rfl) ?_
        refine mv rfl ?_
        refine lf rfl tyYc ?_ (hg := gd1)
        refine ld rfl rfl tyZ rfl ?_ (hg := gd1)
        refine ld rfl rfl tyQ rfl ?_ (hg := gd1)
        refine bu stCh rfl ?_ (hg := gd1)
        refine yd (e := 700) rfl rfl rfl (hyf) (.refl _) ?_ (hg := gd1)
        refine nt rfl _ rfl ?_ (hg := gd1)
        refine pk rfl rfl ?_
        refine ⟨by kernel_rfl, ?_⟩
        refine nx (sl 32 rfl sn) (el 702 rfl (el 701 rfl (el 700 rfl (el 310 rfl (el 417 rfl en))))) ?_
        refine tri_true rfl rfl ?_
        refine tri_ret ?_
        repeat (first | refine pn_thenr ?_ | refine pn_blkr ?_)
        exact rq_ret (el 702 rfl (el 701 rfl (el 700 rfl en)))
  · intro lr dB oo
    refine done_stop ?_
    refine tri_ret ?_
    repeat (first | refine pn_thenr ?_ | refine pn_blkr ?_)
    refine ret_M1 (.inl rfl) rfl rfl ?_
    exact ret0 hcx rfl  (.refl _) (el 700 rfl en)

theorem t_kids {D : List Int} {L : List (List Int)} {ts : List (Int × Int)} {a b : Int} {k : Nat} {s : List Int} {q : Rat} {m : Nat} : Fn Tryz.prog 65 [T.Tr D L ts a b k, T.l (cZi k) s, T.Q q m] [] [] [] (T.fn 121 [T.fp (T.Tr D L ts a b k), T.fp (T.l (cZi k) s), T.fp (T.Q q m)]) := by
  refine fn_of Tryz.func65 rfl (by show 3 ≤ 8; decide) fun cx hcx => ?_
  refine tri_sub (sl 0 rfl (sl 1 rfl (sl 2 rfl sn))) en ?_
  refine tri_seq ?_
  refine tri_reg mixed hcx ?_ _ _
  refine bxs 10 rfl ?_
  refine bx 11 rfl ?_
  refine bxs 12 rfl ?_
  refine asg rfl ?_
  refine ⟨by kernel_rfl, ?_⟩
  refine nx (sl 3 rfl (sl 4 rfl (sl 5 rfl sn))) (el 10 rfl (el 11 rfl (el 12 rfl en))) ?_
  refine tri_seq ?_
  refine tri_fzb 3 10 rfl rfl (fun h => Nat.noConfusion h) ?_
  refine tri_fzb 4 11 rfl rfl (fun h => Nat.noConfusion h) ?_
  refine tri_as 4 (Z := T.fp (T.l (cZi k) s)) rfl (fp_st1) ?_
  refine tri_fzb 5 12 rfl rfl (fun h => Nat.noConfusion h) ?_
  refine tri_reg mixed hcx ?_ _ _
  refine mf rfl ?_
  refine asg rfl ?_
  refine ⟨by kernel_rfl, ?_⟩
  refine nx (sl 6 rfl sn) en ?_
  refine tri_ret ?_
  repeat (first | refine pn_thenr ?_ | refine pn_blkr ?_)
  exact ret1 hcx rfl (rv_tmp rfl) (.refl _) en
end Go.Proofs.YtekghdfbhbhigaaGreat.V
/- The nodes of a search tree below a suffix, in their order. -/
set_option linter.unusedVariables false
set_option maxRecDepth 100000
namespace Go.Proofs.YtekghdfbhbhigaaGreat.V
open Go.RowKit Mt Nml
/-- The first j children with what lies below them. -/
def fl (s : List Int) (x : Nat → Int) (LL : Nat → List (List Int)) : Nat → List (List Int)
  | 0 => []
  | j + 1 => fl s x LL j ++ ((s ++ [x j]) :: LL j)
section
variable (s : List Int) (x : Nat → Int) (LL : Nat → List (List Int))
theorem fl_len (j : Nat) : (fl s x LL (j + 1)).length = (fl s x LL j).length + 1 + (LL j).length := by
  show (fl s x LL j ++ _).length = _
  rw [List.length_append, List.length_cons]; omega
theorem fl_mono {i j : Nat} (h : i ≤ j) : (fl s x LL i).length ≤ (fl s x LL j).length := by
  induction j with
  | zero => rw [show i = 0 by omega]; exact Nat.le_refl _
  | succ j ih =>
    rcases Nat.lt_or_ge i (j + 1) with h1 | h1
    · have := ih (by omega); rw [fl_len]; omega
    · rw [show i = j + 1 by omega]; exact Nat.le_refl _
theorem fl_get {i m : Nat} (h : i < m) (k : Nat) (hk : k < (LL i).length + 1) : (fl s x LL m).getD ((fl s x LL i).length + k) [] = ((s ++ [x i]) :: LL i).getD k [] := by
  induction m with
  | zero => omega
  | succ m ih =>
    show (fl s x LL m ++ ((s ++ [x m]) :: LL m)).getD _ [] = _
    rcases Nat.lt_or_ge i m with h1 | h1
    · have h2 := fl_mono s x LL (show i + 1 ≤ m by omega)
      rw [fl_len] at h2
      rw [← ih h1]
      simp only [List.getD_eq_getElem?_getD]
      rw [List.getElem?_append_left (by omega)]
    · obtain rfl : i = m := by omega
      simp only [List.getD_eq_getElem?_getD]
      rw [List.getElem?_append_right (by omega), Nat.add_sub_cancel_left]
theorem fl_node {i m : Nat} (h : i < m) : (fl s x LL m).getD (fl s x LL i).length [] = s ++ [x i] := fl_get s x LL h 0 (by omega)
theorem fl_below {i m k : Nat} (h : i < m) (hk : k < (LL i).length) : (fl s x LL m).getD ((fl s x LL i).length + 1 + k) [] = (LL i).getD k [] := by
  have := fl_get s x LL h (k + 1) (by omega)
  rw [show (fl s x LL i).length + 1 + k = (fl s x LL i).length + (k + 1) by omega, this]
  rfl
/-- In which child's part a place lies. -/
theorem fl_at {m K : Nat} (h : K ≤ (fl s x LL m).length) : ∃ J, J ≤ m ∧ (fl s x LL J).length ≤ K ∧ (J < m → K < (fl s x LL (J + 1)).length) ∧ (J = m → K = (fl s x LL m).length) := by
  induction m with
  | zero => exact ⟨0, Nat.le_refl _, Nat.zero_le _, fun h => absurd h (Nat.lt_irrefl _), fun _ => by have : (fl s x LL 0).length = 0 := rfl; omega⟩
  | succ m ih =>
    rcases Nat.lt_or_ge K (fl s x LL (m + 1)).length with h1 | h1
    · rcases Nat.lt_or_ge K (fl s x LL m).length with h2 | h2
      · obtain ⟨J, k1, k2, k3, k4⟩ := ih (by omega)
        rcases Nat.lt_or_ge J m with h3 | h3
        · exact ⟨J, by omega, k2, fun _ => k3 h3, fun h => by omega⟩
        · have := k4 (by omega); omega
      · exact ⟨m, by omega, h2, fun _ => h1, fun h => by omega⟩
    · exact ⟨m + 1, Nat.le_refl _, h1, fun h => absurd h (Nat.lt_irrefl _), fun _ => by omega⟩
end
/-- These are the nodes below a suffix of d numbers, in the order of the tree. -/
inductive Bel (D : List Int) (L : List (List Int)) (ts : List (Int × Int)) (n k : Nat) (R : Rat) : List Int → Nat → List (List Int) → Prop
  | leaf (s : List Int) : Bel D L ts n k R s n []
  | node (s : List Int) (d m : Nat) (LL : Nat → List (List Int)) (hd : d < n)
      (hz : ∀ j, j ≤ m → zl (nth (ctT D L ts s (n - 1) (n - 1 - d) d) j) ≤ k)
      (hw : ∀ j, j < m → ptT D L ts (s ++ [nth (ctT D L ts s (n - 1) (n - 1 - d) d) j]) (n - 1) (d + 1) ≤ R)
      (hn : ¬ ptT D L ts (s ++ [nth (ctT D L ts s (n - 1) (n - 1 - d) d) m]) (n - 1) (d + 1) ≤ R)
      (hB : ∀ j, j < m → Bel D L ts n k R (s ++ [nth (ctT D L ts s (n - 1) (n - 1 - d) d) j]) (d + 1) (LL j)) : Bel D L ts n k R s d (fl s (nth (ctT D L ts s (n - 1) (n - 1 - d) d)) LL m)
end Go.Proofs.YtekghdfbhbhigaaGreat.V
/- Search trees: the nodes below a suffix. -/
set_option linter.unusedVariables false
set_option linter.unusedSimpArgs false
set_option maxRecDepth 100000
namespace Go.Proofs.YtekghdfbhbhigaaGreat.V
open Go.RowKit Mt Nml
/-- What the function promises that goes through the nodes below a suffix. -/
def BelC (l : Nat) (D : List Int) (L : List (List Int)) (ts : List (Int × Int)) (a b : Int) (k n : Nat) (s : List Int) (d : Nat) (ns : List (List Int)) : Prop := ∀ (Z : Nat → Ent0) (zf : Ent0) (K : Nat), K ≤ ns.length → (∀ j, j < K → YOk Tryz.prog l (T.l (cZi k) (ns.getD j [])) (Z j) true (Z (j + 1))) → (K < ns.length → YOk Tryz.prog l (T.l (cZi k) (ns.getD K [])) (Z K) false zf) → (K = ns.length → zf = Z K) →
  Fn Tryz.prog 129 [T.Tr D L ts a b k, T.l (cZi k) s, T.Q (ptT D L ts s (n - 1) d) 15100000000, T.Y l] [(700, Ent.ab (Z 0))] [(700, Ent.ab zf)] [] (T.c (.bool (decide (K = ns.length))))

theorem t_below0 {D : List Int} {L : List (List Int)} {ts : List (Int × Int)} {a b : Int} {n k m : Nat} {q : Rat} (h : TrS D L ts n k) {s : List Int} {l : Nat} (hs : s.length = n) {zf : Ent0} : Fn Tryz.prog 129 [T.Tr D L ts a b k, T.l (cZi k) s, T.Q q m, T.Y l] [(700, Ent.ab zf)] [(700, Ent.ab zf)] [] (T.c (.bool true)) := by
  refine fn_ofM Tryz.func129 rfl (by show 4 ≤ 46; decide) fun cx hcx => ?_
  refine tri_sub (sl 0 rfl (sl 1 rfl (sl 2 rfl (sl 3 rfl sn)))) (el 700 rfl en) ?_
  have hlL := h.len
  refine tri_seq ?_
  refine tri_reg mixed hcx ?_ _ _
  refine bxs 10 rfl ?_
  refine bx 11 rfl ?_
  refine bxs 12 rfl ?_
  refine bx 13 rfl ?_
  refine nw 14 zeB ?_
  refine ⟨by kernel_rfl, ?_⟩
  refine nx (sl 4 rfl (sl 5 rfl (sl 6 rfl (sl 7 rfl (sl 8 rfl sn))))) (el 700 rfl (el 10 rfl (el 11 rfl (el 12 rfl (el 13 rfl (el 14 rfl en)))))) ?_
  refine tri_seq ?_
  refine tri_seq ?_
  refine tri_fzb 4 10 rfl rfl (fun h => Nat.noConfusion h) ?_
  refine tri_fzb 5 11 rfl rfl (fun h => Nat.noConfusion h) ?_
  refine tri_as 5 (Z := T.fp (T.l (cZi k) s)) rfl (fp_st1) ?_
  refine tri_fzb 6 12 rfl rfl (fun h => Nat.noConfusion h) ?_
  refine tri_fzb 7 13 rfl rfl (fun h => Nat.noConfusion h) ?_
  refine tri_as 7 (Z := T.fp (T.Y l)) rfl (fp_st1) ?_
  refine tri_reg mixed hcx ?_ _ _
  refine lf rfl tyZs ?_
  refine ln slZs rfl ?_
  refine ff rfl fTrG rfl ?_
  refine ff rfl fL rfl ?_
  refine lf rfl tyZss ?_
  refine ln slZss rfl ?_
  refine ceq rfl rfl (decide_eq_true (by omega)) ?_
  refine ⟨by kernel_rfl, ?_⟩
  refine nx (sl 4 rfl (sl 5 rfl (sl 6 rfl (sl 7 rfl (sl 8 rfl (sl 17 rfl sn)))))) (el 700 rfl (el 14 rfl en)) ?_
  refine tri_true rfl rfl ?_
  refine tri_seq ?_
  refine tri_reg mixed hcx ?_ _ _
  refine st rfl rfl rfl tyB rfl ?_
  refine ⟨by kernel_rfl, ?_⟩
  refine nx (sl 8 rfl sn) (el 700 rfl (el 14 rfl en)) ?_
  refine tri_ret ?_
  repeat (first | refine pn_thenr ?_ | refine pn_blkr ?_)
  refine ret_M0 (.inl rfl) ?_
  exact ret1 hcx rfl (rv_cell (c' := cx) (n := 0) rfl rfl tyB rfl) (.refl _) (el 700 rfl en)

theorem t_below1 {D : List Int} {L : List (List Int)} {ts : List (Int × Int)} {a b : Int} {n k : Nat} (h : TrS D L ts n k) {s : List Int} {l m : Nat} {LL : Nat → List (List Int)} {Z : Nat → Ent0} {zf : Ent0} {K : Nat} (hb : 0 < b) (hs : s.length + 1 ≤ n) (hz : ∀ j, zl (s.getD j 0) ≤ k) (hx : ∀ j, j ≤ m → zl (nth (ctT D L ts s (n - 1) (n - 1 - s.length) s.length) j) ≤ k) (hw : ∀ j, j < m → ptT D L ts (s ++ [nth (ctT D L ts s (n - 1) (n - 1 - s.length) s.length) j]) (n - 1) (s.length + 1) ≤ (a : Rat) / (b : Rat)) (hn : ¬ ptT D L ts (s ++ [nth (ctT D L ts s (n - 1) (n - 1 - s.length) s.length) m]) (n - 1) (s.length + 1) ≤ (a : Rat) / (b : Rat)) (IH : ∀ j, j < m → BelC l D L ts a b k n (s ++ [nth (ctT D L ts s (n - 1) (n - 1 - s.length) s.length) j]) (s.length + 1) (LL j)) (hK : K ≤ (fl s (nth (ctT D L ts s (n - 1) (n - 1 - s.length) s.length)) LL m).length) (hY : ∀ j, j < K → YOk Tryz.prog l (T.l (cZi k) ((fl s (nth (ctT D L ts s (n - 1) (n - 1 - s.length) s.length)) LL m).getD j [])) (Z j) true (Z (j + 1))) (hf : K < (fl s (nth (ctT D L ts s (n - 1) (n - 1 - s.length) s.length)) LL m).length → YOk Tryz.prog l (T.l (cZi k) ((fl s (nth (ctT D L ts s (n - 1) (n - 1 - s.length) s.length)) LL m).getD K [])) (Z K) false zf) (he : K = (fl s (nth (ctT D L ts s (n - 1) (n - 1 - s.length) s.length)) LL m).length → zf = Z K) : Fn Tryz.prog 129 [T.Tr D L ts a b k, T.l (cZi k) s, T.Q (ptT D L ts s (n - 1) s.length) 15100000000, T.Y l] [(700, Ent.ab (Z 0))] [(700, Ent.ab zf)] [] (T.c (.bool (decide (K = (fl s (nth (ctT D L ts s (n - 1) (n - 1 - s.length) s.length)) LL m).length)))) := by
  refine fn_ofM Tryz.func129 rfl (by show 4 ≤ 46; decide) fun cx hcx => ?_
  refine tri_sub (sl 0 rfl (sl 1 rfl (sl 2 rfl (sl 3 rfl sn)))) (el 700 rfl en) ?_
  have hlL := h.len
  have hkk := h.hk
  have hn12 := h.twelve
  obtain ⟨J, hJ, hJ1, hJ2, hJ3⟩ := fl_at s (nth (ctT D L ts s (n - 1) (n - 1 - s.length) s.length)) LL hK
  refine tri_seq ?_
  refine tri_reg mixed hcx ?_ _ _
  refine bxs 10 rfl ?_
  refine bx 11 rfl ?_
  refine bxs 12 rfl ?_
  refine bx 13 rfl ?_
  refine nw 14 zeB ?_
  refine ⟨by kernel_rfl, ?_⟩
  refine nx (sl 4 rfl (sl 5 rfl (sl 6 rfl (sl 7 rfl (sl 8 rfl sn))))) (el 700 rfl (el 10 rfl (el 11 rfl (el 12 rfl (el 13 rfl (el 14 rfl en)))))) ?_
  refine tri_seq ?_
  refine tri_seq ?_
  refine tri_fzb 4 10 rfl rfl (fun h => Nat.noConfusion h) ?_
  refine tri_fzb 5 11 rfl rfl (fun h => Nat.noConfusion h) ?_
  refine tri_as 5 (Z := T.fp (T.l (cZi k) s)) rfl (fp_st1) ?_
  refine tri_fzb 6 12 rfl rfl (fun h => Nat.noConfusion h) ?_
  refine tri_fzb 7 13 rfl rfl (fun h => Nat.noConfusion h) ?_
  refine tri_as 7 (Z := T.fp (T.Y l)) rfl (fp_st1) ?_
  refine tri_reg mixed hcx ?_ _ _
  refine lf rfl tyZs ?_
  refine ln slZs rfl ?_
  refine ff rfl fTrG rfl ?_
  refine ff rfl fL rfl ?_
  refine lf rfl tyZss ?_
  refine ln slZss rfl ?_
  refine ceq rfl rfl (decide_eq_false (by omega)) ?_
  refine ⟨by kernel_rfl, ?_⟩
  refine nx (sl 4 rfl (sl 5 rfl (sl 6 rfl (sl 7 rfl (sl 8 rfl (sl 17 rfl sn)))))) (el 700 rfl (el 14 rfl en)) ?_
  refine tri_false rfl rfl ?_
  refine tri_skip ?_
  refine nx (sl 4 rfl (sl 5 rfl (sl 6 rfl (sl 7 rfl (sl 8 rfl sn))))) (el 700 rfl (el 14 rfl en)) ?_
  refine tri_seq ?_
  refine tri_seq ?_
  rcases Nat.lt_or_eq_of_le hJ with hJm | hJm
  · have hJ4 := hJ2 hJm
    have hmm := fl_mono s (nth (ctT D L ts s (n - 1) (n - 1 - s.length) s.length)) LL (show J + 1 ≤ m by omega)
    refine tri_reg mixed hcx ?_ _ _
    refine lf rfl tyTr ?_
    refine lf rfl tyZs ?_
    refine lf rfl tyQ ?_
    refine ca rfl (h := t_kids) (hn := ?_)
    refine ⟨by kernel_rfl, ?_⟩
    refine nx (sl 4 rfl (sl 5 rfl (sl 7 rfl (sl 8 rfl (sl 21 rfl sn))))) (el 700 rfl (el 14 rfl en)) ?_
    refine tri_block ?_
    refine tri_range (ι := Nat) (κ := Unit) (f := 121) (Caps := [T.fp (T.Tr D L ts a b k), T.fp (T.l (cZi k) s), T.fp (T.Q (ptT D L ts s (n - 1) s.length) 15100000000)]) (R := T.tup []) (g' := [(4, T.fp (T.Tr D L ts a b k)), (5, T.fp (T.l (cZi k) s)), (7, T.fp (T.Y l)), (8, T.p 14 0)]) (fun j => [(14, some (Ent.box 4 [T.c (.bool false)])), (700, some (Ent.ab (Z (fl s (nth (ctT D L ts s (n - 1) (n - 1 - s.length) s.length)) LL j).length)))]) (fun _ => [(14, some (Ent.box 4 [T.c (.bool false)])), (700, some (Ent.ab zf))]) (fun _ => .ret) (fun j X o => (j < J ∧ X = (T.Ch (nth (ctT D L ts s (n - 1) (n - 1 - s.length) s.length) j) k (ptT D L ts (s ++ [nth (ctT D L ts s (n - 1) (n - 1 - s.length) s.length) j]) (n - 1) (s.length + 1)) 15100000000) ∧ o = .inl (j + 1)) ∨ (j = J ∧ X = (T.Ch (nth (ctT D L ts s (n - 1) (n - 1 - s.length) s.length) j) k (ptT D L ts (s ++ [nth (ctT D L ts s (n - 1) (n - 1 - s.length) s.length) j]) (n - 1) (s.length + 1)) 15100000000) ∧ o = .inr ())) (0) (.inr ()) rfl hcx rfl (by intro a w; kernel_rfl) (by decide) (sl 4 rfl (sl 5 rfl (sl 7 rfl (sl 8 rfl sn)))) (el 14 rfl (el 700 rfl en)) ?_ ?_ ?_ ?_
    · intro lw W V hW
      exact t_kids1 (Z := W) (zf := V ()) (K := J) h hb hs hz (fun j hj => hx j (by omega)) (fun j hj => hw j (by omega)) (fun j hj => hW j _ (.inl (j + 1)) (.inl ⟨hj, rfl, rfl⟩)) (.inr ⟨hw J hJm, hW J _ (.inr ()) (.inr ⟨rfl, rfl, rfl⟩)⟩)
    · rintro j X o (⟨_, rfl, _⟩ | ⟨_, rfl, _⟩) <;> rfl
    · rintro lr dB rr c' hrd hdf hcx' j X o (⟨hj, rfl, rfl⟩ | ⟨hj, rfl, rfl⟩)
      · have hmo2 := fl_mono s (nth (ctT D L ts s (n - 1) (n - 1 - s.length) s.length)) LL hJ
        have hoff := fl_len s (nth (ctT D L ts s (n - 1) (n - 1 - s.length) s.length)) LL j
        have hmo := fl_mono s (nth (ctT D L ts s (n - 1) (n - 1 - s.length) s.length)) LL (show j + 1 ≤ J by omega)
        have hYn := hY (fl s (nth (ctT D L ts s (n - 1) (n - 1 - s.length) s.length)) LL j).length (by omega)
        rw [fl_node s (nth (ctT D L ts s (n - 1) (n - 1 - s.length) s.length)) LL (show j < m by omega)] at hYn
        have hB := IH j (by omega) (fun i => Z ((fl s (nth (ctT D L ts s (n - 1) (n - 1 - s.length) s.length)) LL j).length + 1 + i)) (Z (fl s (nth (ctT D L ts s (n - 1) (n - 1 - s.length) s.length)) LL (j + 1)).length) (LL j).length (Nat.le_refl _) (fun i hi => by have := hY ((fl s (nth (ctT D L ts s (n - 1) (n - 1 - s.length) s.length)) LL j).length + 1 + i) (by omega); rwa [fl_below s (nth (ctT D L ts s (n - 1) (n - 1 - s.length) s.length)) LL (show j < m by omega) hi] at this) (fun h => absurd h (Nat.lt_irrefl _)) (fun _ => by rw [hoff])
        refine tri_reg mixed hcx' ?_ _ _
        refine nw 410 zeCh ?_
        refine sts rfl rfl rfl tyCh rfl ?_
        refine ⟨by kernel_rfl, ?_⟩
        refine nx_begin hrd rfl (sl 4 rfl (sl 5 rfl (sl 7 rfl (sl 8 rfl (sl 9 rfl sn))))) (el 702 rfl (el 701 rfl (el 14 rfl (el 700 rfl (el 410 rfl en))))) ?_
        refine tri_block ?_
        refine tri_seq ?_
        refine tri_reg mixed hcx' ?_ _ _
        refine lf rfl tyZs ?_
        refine ln slZs rfl ?_
        refine ad (((s.length + 1 : Nat) : Int)) rfl rfl rfl (by omega) ?_
        refine mk0 (c := cZi k) (n := s.length + 1) 513 slZs rfl rfl (by omega) (by decide) ?_
        refine lf rfl tyZs ?_
        refine ap 515 rfl rfl rfl slZs (by simp only [List.length_nil]; omega) (by decide) ?_
        refine fa rfl fChx 0 ?_
        refine ld rfl rfl tyZ rfl ?_
        refine bs (c := cZi k) (xs := [nth (ctT D L ts s (n - 1) (n - 1 - s.length) s.length) j]) slZs rfl ⟨z_zi _ _, trivial⟩ ?_
        refine ap 519 rfl rfl rfl slZs (by simp only [List.length_append, List.length_nil, List.length_cons]; omega) (by decide) ?_
        refine asg rfl ?_
        refine ⟨by kernel_rfl, ?_⟩
        refine nx (sl 4 rfl (sl 7 rfl (sl 8 rfl (sl 9 rfl (sl 10 rfl sn))))) (el 702 rfl (el 701 rfl (el 14 rfl (el 700 rfl (el 410 rfl (el 519 rfl en)))))) ?_
        refine tri_seq ?_
        refine tri_fz 519 rfl ?_
        refine tri_rd 10 519 rfl rfl ?_
        refine tri_reg mixed hcx' ?_ _ _
        refine lf rfl tyYs ?_
        refine mv rfl ?_
        refine yd (e := 700) rfl rfl rfl (hYn) (.refl _) ?_
        refine nt rfl _ rfl ?_
        refine mv rfl ?_
        refine lf rfl tyTr ?_ (hg := gd1)
        refine mv rfl ?_ (hg := gd1)
        refine fa rfl fChp 2 ?_ (hg := gd1)
        refine ld rfl rfl tyQ rfl ?_ (hg := gd1)
        refine lf rfl tyYs ?_ (hg := gd1)
        refine cas (hE := rfl) (e := 700) rfl (h := hB) (hn := ?_) (hg := gd1)
        refine nt rfl _ (show (!decide _) = false from by rw [decide_eq_true rfl]; rfl) ?_ (hg := gd1)
        refine pk rfl rfl ?_
        refine ⟨by kernel_rfl, ?_⟩
        refine nx (sl 8 rfl (sl 45 rfl sn)) (el 702 rfl (el 701 rfl (el 14 rfl (el 700 rfl (el 410 rfl en))))) ?_
        refine tri_false rfl rfl ?_
        refine tri_skip ?_
        refine pn_blk ?_
        exact rq_go (el 702 rfl (el 701 rfl (el 14 rfl (el 700 rfl en))))
      · obtain rfl : j = J := hj
        have hoff := fl_len s (nth (ctT D L ts s (n - 1) (n - 1 - s.length) s.length)) LL j
        have hmo := fl_mono s (nth (ctT D L ts s (n - 1) (n - 1 - s.length) s.length)) LL (show j + 1 ≤ m by omega)
        refine tri_reg mixed hcx' ?_ _ _
        refine nw 410 zeCh ?_
        refine sts rfl rfl rfl tyCh rfl ?_
        refine ⟨by kernel_rfl, ?_⟩
        refine nx_begin hrd rfl (sl 4 rfl (sl 5 rfl (sl 7 rfl (sl 8 rfl (sl 9 rfl sn))))) (el 702 rfl (el 701 rfl (el 14 rfl (el 700 rfl (el 410 rfl en))))) ?_
        refine tri_block ?_
        refine tri_seq ?_
        refine tri_reg mixed hcx' ?_ _ _
        refine lf rfl tyZs ?_
        refine ln slZs rfl ?_
        refine ad (((s.length + 1 : Nat) : Int)) rfl rfl rfl (by omega) ?_
        refine mk0 (c := cZi k) (n := s.length + 1) 513 slZs rfl rfl (by omega) (by decide) ?_
        refine lf rfl tyZs ?_
        refine ap 515 rfl rfl rfl slZs (by simp only [List.length_nil]; omega) (by decide) ?_
        refine fa rfl fChx 0 ?_
        refine ld rfl rfl tyZ rfl ?_
        refine bs (c := cZi k) (xs := [nth (ctT D L ts s (n - 1) (n - 1 - s.length) s.length) j]) slZs rfl ⟨z_zi _ _, trivial⟩ ?_
        refine ap 519 rfl rfl rfl slZs (by simp only [List.length_append, List.length_nil, List.length_cons]; omega) (by decide) ?_
        refine asg rfl ?_
        refine ⟨by kernel_rfl, ?_⟩
        refine nx (sl 4 rfl (sl 7 rfl (sl 8 rfl (sl 9 rfl (sl 10 rfl sn))))) (el 702 rfl (el 701 rfl (el 14 rfl (el 700 rfl (el 410 rfl (el 519 rfl en)))))) ?_
        refine tri_seq ?_
        rcases Nat.eq_or_lt_of_le hJ1 with hq | hq
        · have hfn := hf (by omega)
          rw [← hq, fl_node s (nth (ctT D L ts s (n - 1) (n - 1 - s.length) s.length)) LL hJm] at hfn
          refine tri_fz 519 rfl ?_
          refine tri_rd 10 519 rfl rfl ?_
          refine tri_reg mixed hcx' ?_ _ _
          refine lf rfl tyYs ?_
          refine mv rfl ?_
          refine yd (e := 700) rfl rfl rfl (hfn) (.refl _) ?_
          refine nt rfl _ rfl ?_
          refine mv rfl ?_
          refine j_off rfl rfl rfl rfl ?_
          refine j_off rfl rfl rfl rfl ?_
          refine j_off rfl rfl rfl rfl ?_
          refine j_off rfl rfl rfl rfl ?_
          refine j_off rfl rfl rfl rfl ?_
          refine j_off rfl rfl rfl rfl ?_
          refine j_off rfl rfl rfl rfl ?_
          refine pk rfl rfl ?_
          refine ⟨by kernel_rfl, ?_⟩
          refine nx (sl 8 rfl (sl 45 rfl sn)) (el 702 rfl (el 701 rfl (el 14 rfl (el 700 rfl (el 410 rfl en))))) ?_
          refine tri_true rfl rfl ?_
          refine tri_seq ?_
          refine tri_reg mixed hcx' ?_ _ _
          refine st rfl rfl rfl tyB rfl ?_
          refine ⟨by kernel_rfl, ?_⟩
          refine nx (sl 8 rfl sn) (el 702 rfl (el 701 rfl (el 14 rfl (el 700 rfl (el 410 rfl en))))) ?_
          refine tri_ret ?_
          repeat (first | refine pn_thenr ?_ | refine pn_blkr ?_)
          exact rq_ret (el 702 rfl (el 701 rfl (el 14 rfl (el 700 rfl en))))
        · have hYn := hY (fl s (nth (ctT D L ts s (n - 1) (n - 1 - s.length) s.length)) LL j).length hq
          rw [fl_node s (nth (ctT D L ts s (n - 1) (n - 1 - s.length) s.length)) LL hJm] at hYn
          have hKe : K = (fl s (nth (ctT D L ts s (n - 1) (n - 1 - s.length) s.length)) LL j).length + 1 + (K - (fl s (nth (ctT D L ts s (n - 1) (n - 1 - s.length) s.length)) LL j).length - 1) := by omega
          have hB := IH j hJm (fun i => Z ((fl s (nth (ctT D L ts s (n - 1) (n - 1 - s.length) s.length)) LL j).length + 1 + i)) zf (K - (fl s (nth (ctT D L ts s (n - 1) (n - 1 - s.length) s.length)) LL j).length - 1) (by omega) (fun i hi => by have := hY ((fl s (nth (ctT D L ts s (n - 1) (n - 1 - s.length) s.length)) LL j).length + 1 + i) (by omega); rwa [fl_below s (nth (ctT D L ts s (n - 1) (n - 1 - s.length) s.length)) LL hJm (by omega)] at this) (fun h => by have := hf (by omega); rw [hKe, fl_below s (nth (ctT D L ts s (n - 1) (n - 1 - s.length) s.length)) LL hJm (by omega)] at this; exact this) (fun h => absurd h (by omega))
          refine tri_fz 519 rfl ?_
          refine tri_rd 10 519 rfl rfl ?_
          refine tri_reg mixed hcx' ?_ _ _
          refine lf rfl tyYs ?_
          refine mv rfl ?_
          refine yd (e := 700) rfl rfl rfl (hYn) (.refl _) ?_
          refine nt rfl _ rfl ?_
          refine mv rfl ?_
          refine lf rfl tyTr ?_ (hg := gd1)
          refine mv rfl ?_ (hg := gd1)
          refine fa rfl fChp 2 ?_ (hg := gd1)
          refine ld rfl rfl tyQ rfl ?_ (hg := gd1)
          refine lf rfl tyYs ?_ (hg := gd1)
          refine cas (hE := rfl) (e := 700) rfl (h := hB) (hn := ?_) (hg := gd1)
          refine nt rfl _ (show (!decide _) = true from by rw [decide_eq_false (by omega)]; rfl) ?_ (hg := gd1)
          refine pk rfl rfl ?_
          refine ⟨by kernel_rfl, ?_⟩
          refine nx (sl 8 rfl (sl 45 rfl sn)) (el 702 rfl (el 701 rfl (el 14 rfl (el 700 rfl (el 410 rfl en))))) ?_
          refine tri_true rfl rfl ?_
          refine tri_seq ?_
          refine tri_reg mixed hcx' ?_ _ _
          refine st rfl rfl rfl tyB rfl ?_
          refine ⟨by kernel_rfl, ?_⟩
          refine nx (sl 8 rfl sn) (el 702 rfl (el 701 rfl (el 14 rfl (el 700 rfl (el 410 rfl en))))) ?_
          refine tri_ret ?_
          repeat (first | refine pn_thenr ?_ | refine pn_blkr ?_)
          exact rq_ret (el 702 rfl (el 701 rfl (el 14 rfl (el 700 rfl en))))
    · intro lr dB oo
      refine done_stop ?_
      refine tri_ret ?_
      repeat (first | refine pn_thenr ?_ | refine pn_blkr ?_)
      refine ret_M1 (.inl rfl) rfl rfl ?_
      exact ret1 hcx rfl (rv_cell (c' := cx) (n := 0) rfl rfl tyB rfl) (.of (by rw [decide_eq_false (by omega)])) (el 700 rfl en)
  · have hKm := hJ3 hJm
    refine tri_reg mixed hcx ?_ _ _
    refine lf rfl tyTr ?_
    refine lf rfl tyZs ?_
    refine lf rfl tyQ ?_
    refine ca rfl (h := t_kids) (hn := ?_)
    refine ⟨by kernel_rfl, ?_⟩
    refine nx (sl 4 rfl (sl 5 rfl (sl 7 rfl (sl 8 rfl (sl 21 rfl sn))))) (el 700 rfl (el 14 rfl en)) ?_
    refine tri_block ?_
    refine tri_range (ι := Nat) (κ := Unit) (f := 121) (Caps := [T.fp (T.Tr D L ts a b k), T.fp (T.l (cZi k) s), T.fp (T.Q (ptT D L ts s (n - 1) s.length) 15100000000)]) (R := T.tup []) (g' := [(4, T.fp (T.Tr D L ts a b k)), (5, T.fp (T.l (cZi k) s)), (7, T.fp (T.Y l)), (8, T.p 14 0)]) (fun j => [(14, some (Ent.box 4 [T.c (.bool false)])), (700, some (Ent.ab (Z (fl s (nth (ctT D L ts s (n - 1) (n - 1 - s.length) s.length)) LL j).length)))]) (fun _ => [(14, some (Ent.box 4 [T.c (.bool false)])), (700, some (Ent.ab zf))]) (fun _ => .ret) (fun j X o => j < m ∧ X = (T.Ch (nth (ctT D L ts s (n - 1) (n - 1 - s.length) s.length) j) k (ptT D L ts (s ++ [nth (ctT D L ts s (n - 1) (n - 1 - s.length) s.length) j]) (n - 1) (s.length + 1)) 15100000000) ∧ o = .inl (j + 1)) (0) (.inl m) rfl hcx rfl (by intro a w; kernel_rfl) (by decide) (sl 4 rfl (sl 5 rfl (sl 7 rfl (sl 8 rfl sn)))) (el 14 rfl (el 700 rfl en)) ?_ ?_ ?_ ?_
    · intro lw W V hW
      exact t_kids1 (Z := W) (zf := W m) (K := m) h hb hs hz hx hw (fun j hj => hW j _ (.inl (j + 1)) ⟨hj, rfl, rfl⟩) (.inl ⟨hn, rfl⟩)
    · rintro j X o ⟨_, rfl, _⟩ <;> rfl
    · rintro lr dB rr c' hrd hdf hcx' j X o ⟨hj, rfl, rfl⟩
      · have hoff := fl_len s (nth (ctT D L ts s (n - 1) (n - 1 - s.length) s.length)) LL j
        have hmo := fl_mono s (nth (ctT D L ts s (n - 1) (n - 1 - s.length) s.length)) LL (show j + 1 ≤ m by omega)
        have hYn := hY (fl s (nth (ctT D L ts s (n - 1) (n - 1 - s.length) s.length)) LL j).length (by omega)
        rw [fl_node s (nth (ctT D L ts s (n - 1) (n - 1 - s.length) s.length)) LL (show j < m by omega)] at hYn
        have hB := IH j (by omega) (fun i => Z ((fl s (nth (ctT D L ts s (n - 1) (n - 1 - s.length) s.length)) LL j).length + 1 + i)) (Z (fl s (nth (ctT D L ts s (n - 1) (n - 1 - s.length) s.length)) LL (j + 1)).length) (LL j).length (Nat.le_refl _) (fun i hi => by have := hY ((fl s (nth (ctT D L ts s (n - 1) (n - 1 - s.length) s.length)) LL j).length + 1 + i) (by omega); rwa [fl_below s (nth (ctT D L ts s (n - 1) (n - 1 - s.length) s.length)) LL (show j < m by omega) hi] at this) (fun h => absurd h (Nat.lt_irrefl _)) (fun _ => by rw [hoff])
        refine tri_reg mixed hcx' ?_ _ _
        refine nw 410 zeCh ?_
        refine sts rfl rfl rfl tyCh rfl ?_
        refine ⟨by kernel_rfl, ?_⟩
        refine nx_begin hrd rfl (sl 4 rfl (sl 5 rfl (sl 7 rfl (sl 8 rfl (sl 9 rfl sn))))) (el 702 rfl (el 701 rfl (el 14 rfl (el 700 rfl (el 410 rfl en))))) ?_
        refine tri_block ?_
        refine tri_seq ?_
        refine tri_reg mixed hcx' ?_ _ _
        refine lf rfl tyZs ?_
        refine ln slZs rfl ?_
        refine ad (((s.length + 1 : Nat) : Int)) rfl rfl rfl (by omega) ?_
        refine mk0 (c := cZi k) (n := s.length + 1) 513 slZs rfl rfl (by omega) (by decide) ?_
        refine lf rfl tyZs ?_
        refine ap 515 rfl rfl rfl slZs (by simp only [List.length_nil]; omega) (by decide) ?_
        refine fa rfl fChx 0 ?_
        refine ld rfl rfl tyZ rfl ?_
        refine bs (c := cZi k) (xs := [nth (ctT D L ts s (n - 1) (n - 1 - s.length) s.length) j]) slZs rfl ⟨z_zi _ _, trivial⟩ ?_
        refine ap 519 rfl rfl rfl slZs (by simp only [List.length_append, List.length_nil, List.length_cons]; omega) (by decide) ?_
        refine asg rfl ?_
        refine ⟨by kernel_rfl, ?_⟩
        refine nx (sl 4 rfl (sl 7 rfl (sl 8 rfl (sl 9 rfl (sl 10 rfl sn))))) (el 702 rfl (el 701 rfl (el 14 rfl (el 700 rfl (el 410 rfl (el 519 rfl en)))))) ?_
        refine tri_seq ?_
        refine tri_fz 519 rfl ?_
        refine tri_rd 10 519 rfl rfl ?_
        refine tri_reg mixed hcx' ?_ _ _
        refine lf rfl tyYs ?_
        refine mv rfl ?_
        refine yd (e := 700) rfl rfl rfl (hYn) (.refl _) ?_
        refine nt rfl _ rfl ?_
        refine mv rfl ?_
        refine lf rfl tyTr ?_ (hg := gd1)
        refine mv rfl ?_ (hg := gd1)
        refine fa rfl fChp 2 ?_ (hg := gd1)
        refine ld rfl rfl tyQ rfl ?_ (hg := gd1)
        refine lf rfl tyYs ?_ (hg := gd1)
        refine cas (hE := rfl) (e := 700) rfl (h := hB) (hn := ?_) (hg := gd1)
        refine nt rfl _ (show (!decide _) = false from by rw [decide_eq_true rfl]; rfl) ?_ (hg := gd1)
        refine pk rfl rfl ?_
        refine ⟨by kernel_rfl, ?_⟩
        refine nx (sl 8 rfl (sl 45 rfl sn)) (el 702 rfl (el 701 rfl (el 14 rfl (el 700 rfl (el 410 rfl en))))) ?_
        refine tri_false rfl rfl ?_
        refine tri_skip ?_
        refine pn_blk ?_
        exact rq_go (el 702 rfl (el 701 rfl (el 14 rfl (el 700 rfl en))))
    · intro lr dB oo
      refine done_go ?_
      refine pn_blk ?_
      refine nx (sl 8 rfl sn) (el 702 rfl (el 701 rfl (el 14 rfl (el 700 rfl en)))) ?_
      refine tri_seq ?_
      refine tri_reg mixed (show (cx.up.put dB).I = _ from hcx) ?_ _ _
      refine st rfl rfl rfl tyB rfl ?_
      refine ⟨by kernel_rfl, ?_⟩
      refine nx (sl 8 rfl sn) (el 702 rfl (el 701 rfl (el 14 rfl (el 700 rfl en)))) ?_
      refine tri_ret ?_
      repeat (first | refine pn_thenr ?_ | refine pn_blkr ?_)
      refine ret_M1 (.inl rfl) rfl rfl ?_
      exact ret1 hcx rfl (rv_cell (c' := cx) (n := 0) rfl rfl tyB rfl) (.of (by rw [decide_eq_true hKm])) (ew 700 rfl (.of (by rw [he hKm, hKm])) en)

theorem t_below {D : List Int} {L : List (List Int)} {ts : List (Int × Int)} {a b : Int} {n k : Nat} (h : TrS D L ts n k) (hb : 0 < b) {l : Nat} {s : List Int} {d : Nat} {ns : List (List Int)} (hB : Bel D L ts n k ((a : Rat) / (b : Rat)) s d ns) : s.length = d → (∀ j, zl (s.getD j 0) ≤ k) → BelC l D L ts a b k n s d ns := by
  induction hB with
  | leaf s =>
    intro hs hz Z zf K hK hY hf he
    obtain rfl : K = 0 := by simpa using hK
    obtain rfl := he rfl
    exact t_below0 h hs
  | node s d m LL hd hzz hw hn hB ih =>
    intro hs hz Z zf K hK hY hf he
    subst hs
    exact t_below1 h hb (by omega) hz hzz hw hn (fun j hj => ih j hj (by simp) (zl_snoc hz (hzz j (by omega)))) hK hY hf he
end Go.Proofs.YtekghdfbhbhigaaGreat.V
/- How many nodes have how many numbers. -/
set_option linter.unusedVariables false
set_option maxRecDepth 100000
namespace Go.Proofs.YtekghdfbhbhigaaGreat.V
open Go.RowKit Mt Nml
/-- How many of the first j have how many numbers. -/
def cnt (n : Nat) (ns : List (List Int)) : Nat → List Int
  | 0 => List.replicate n 0
  | j + 1 => (cnt n ns j).set ((ns.getD j []).length - 1) ((cnt n ns j).getD ((ns.getD j []).length - 1) 0 + 1)
theorem cnt_len (n : Nat) (ns : List (List Int)) : ∀ j, (cnt n ns j).length = n
  | 0 => List.length_replicate
  | j + 1 => by
    show ((cnt n ns j).set _ _).length = n
    rw [List.length_set]
    exact cnt_len n ns j
theorem getD_setI (l : List Int) (i k : Nat) (v : Int) : (l.set i v).getD k 0 = if i = k ∧ i < l.length then v else l.getD k 0 := by
  simp only [List.getD_eq_getElem?_getD, List.getElem?_set]
  by_cases h : i = k
  · subst h
    by_cases h2 : i < l.length
    · simp [h2]
    · simp [h2]
  · simp [h]
theorem cnt_b (n : Nat) (ns : List (List Int)) : ∀ j i, 0 ≤ (cnt n ns j).getD i 0 ∧ (cnt n ns j).getD i 0 ≤ j
  | 0, i => by
    show 0 ≤ (List.replicate n (0 : Int)).getD i 0 ∧ (List.replicate n (0 : Int)).getD i 0 ≤ ((0 : Nat) : Int)
    have : (List.replicate n (0 : Int)).getD i 0 = 0 := by
      simp only [List.getD_eq_getElem?_getD, List.getElem?_replicate]
      split <;> rfl
    rw [this]
    exact ⟨Int.le_refl _, by omega⟩
  | j + 1, i => by
    have h1 := cnt_b n ns j i
    have h2 := cnt_b n ns j ((ns.getD j []).length - 1)
    show 0 ≤ ((cnt n ns j).set _ _).getD i 0 ∧ ((cnt n ns j).set _ _).getD i 0 ≤ _
    rw [getD_setI]
    split <;> omega
theorem Bel.len {D : List Int} {L : List (List Int)} {ts : List (Int × Int)} {n k : Nat} {R : Rat} {s : List Int} {d : Nat} {ns : List (List Int)} (h : Bel D L ts n k R s d ns) : s.length = d → ∀ i, i < ns.length → d < (ns.getD i []).length ∧ (ns.getD i []).length ≤ n := by
  induction h with
  | leaf s => exact fun _ i hi => absurd hi (Nat.not_lt_zero _)
  | node s d m LL hd hz hw hn hB ih =>
    intro hs i hi
    subst hs
    obtain ⟨J, k1, k2, k3, k4⟩ := fl_at s (nth (ctT D L ts s (n - 1) (n - 1 - s.length) s.length)) LL (Nat.le_of_lt hi)
    have hJ : J < m := by
      rcases Nat.lt_or_ge J m with h | h
      · exact h
      · have := k4 (by omega); omega
    have k5 := k3 hJ
    rw [fl_len] at k5
    have h1 := fl_get s (nth (ctT D L ts s (n - 1) (n - 1 - s.length) s.length)) LL hJ (i - (fl s (nth (ctT D L ts s (n - 1) (n - 1 - s.length) s.length)) LL J).length) (by omega)
    rw [show (fl s (nth (ctT D L ts s (n - 1) (n - 1 - s.length) s.length)) LL J).length + (i - (fl s (nth (ctT D L ts s (n - 1) (n - 1 - s.length) s.length)) LL J).length) = i by omega] at h1
    rw [h1]
    rcases Nat.eq_zero_or_pos (i - (fl s (nth (ctT D L ts s (n - 1) (n - 1 - s.length) s.length)) LL J).length) with h0 | h0
    · rw [h0]
      show s.length < (s ++ [_]).length ∧ (s ++ [_]).length ≤ n
      rw [List.length_append]
      exact ⟨Nat.lt_succ_self _, hd⟩
    · obtain ⟨i', hi'⟩ : ∃ i', i - (fl s (nth (ctT D L ts s (n - 1) (n - 1 - s.length) s.length)) LL J).length = i' + 1 := ⟨i - (fl s (nth (ctT D L ts s (n - 1) (n - 1 - s.length) s.length)) LL J).length - 1, by omega⟩
      rw [hi']
      have := ih J hJ (by simp) i' (by omega)
      exact ⟨by have := this.1; show s.length < ((LL J).getD i' []).length; omega, this.2⟩
end Go.Proofs.YtekghdfbhbhigaaGreat.V
/- Search trees: nodes counted. -/
set_option linter.unusedVariables false
set_option linter.unusedSimpArgs false
set_option maxRecDepth 100000
namespace Go.Proofs.YtekghdfbhbhigaaGreat.V
open Go.RowKit Mt Nml
/-- Numbers of the machine. -/
def cI : Cod Int := ⟨fun a => T.c (.int .i64 a), 1, 0, fun _ => rfl, fun _ => rfl, by decide⟩
theorem tyIs : Ty Tryz.prog 58 false 1 := ⟨by kernel_rfl, by kernel_rfl⟩
theorem slIs : SlT Tryz.prog 58 3 1 8 := SlT.mk (.int .i64 0)
theorem zeIs : Zero Tryz.prog 58 [T.c (.slice none 0 0)] := zero_of (zs := [.slice none 0 0]) (z := .slice none 0 0) (by kernel_rfl)
theorem zvI : (Tryz.prog.info? 3).bind (·.zero) = some (.int .i64 0) := by kernel_rfl
theorem zrI (u : World) : (cI.X cI.dflt).rep B0 u (.int .i64 0) := rfl

theorem t_root {D : List Int} {L : List (List Int)} {ts : List (Int × Int)} {a b : Int} {n k : Nat} (h : TrS D L ts n k) (hb : 0 < b) {l : Nat} {Z : Nat → Ent0} {zf : Ent0} {ns : List (List Int)} {K : Nat} (hB : Bel D L ts n k ((a : Rat) / (b : Rat)) [] 0 ns) (hK : K ≤ ns.length) (hY : ∀ j, j < K → YOk Tryz.prog l (T.l (cZi k) (ns.getD j [])) (Z j) true (Z (j + 1))) (hf : K < ns.length → YOk Tryz.prog l (T.l (cZi k) (ns.getD K [])) (Z K) false zf) (he : K = ns.length → zf = Z K) : Fn Tryz.prog 129 [T.Tr D L ts a b k, T.c (.slice none 0 0), T.Q ((0 : Int) : Rat) (2 + 2), T.Y l] [(700, Ent.ab (Z 0))] [(700, Ent.ab zf)] [] (T.c (.bool (decide (K = ns.length)))) :=
  fn_le (t_below h hb hB rfl (fun j => by rw [show (([] : List Int)).getD j 0 = 0 from by simp, zl_zero]; exact Nat.zero_le _) Z zf K hK hY hf he) ⟨.refl _, nil_l _, q_qb (by rfl) (QB.mono (QB.int (z := 0) (k := 0) (by rw [zl_zero]; exact Nat.le_refl _)) (by omega)), .refl _, trivial⟩

theorem t_each1 {D : List Int} {L : List (List Int)} {ts : List (Int × Int)} {a b : Int} {n k : Nat} (h : TrS D L ts n k) (hb : 0 < b) {l : Nat} {Z : Nat → Ent0} {zf : Ent0} {ns : List (List Int)} {K : Nat} (hB : Bel D L ts n k ((a : Rat) / (b : Rat)) [] 0 ns) (hK : K ≤ ns.length) (hY : ∀ j, j < K → YOk Tryz.prog l (T.l (cZi k) (ns.getD j [])) (Z j) true (Z (j + 1))) (hf : K < ns.length → YOk Tryz.prog l (T.l (cZi k) (ns.getD K [])) (Z K) false zf) (he : K = ns.length → zf = Z K) : Fn Tryz.prog 128 [T.Y l, T.fp (T.Tr D L ts a b k)] [(700, Ent.ab (Z 0))] [(700, Ent.ab zf)] [] (T.tup []) := by
  refine fn_of Tryz.func128 rfl (by show 2 ≤ 8; decide) fun cx hcx => ?_
  refine tri_sub (sl 0 rfl (sl 1 rfl sn)) (el 700 rfl en) ?_
  refine tri_reg mixed hcx ?_ _ _
  refine lf rfl tyTr ?_
  refine ca rfl (h := zi_Of (by omega) (by omega)) (hn := ?_)
  refine ca rfl (h := rat_Of (by omega)) (hn := ?_)
  refine mv rfl ?_
  refine cas (hE := rfl) (e := 700) rfl (h := t_root h hb hB hK hY hf he) (hn := ?_)
  refine ⟨by kernel_rfl, ?_⟩
  refine pn_off ?_
  exact ret0 hcx rfl  (.refl _) (el 700 rfl en)

theorem t_each {D : List Int} {L : List (List Int)} {ts : List (Int × Int)} {a b : Int} {k : Nat} : Fn Tryz.prog 76 [T.Tr D L ts a b k] [] [] [] (T.fn 128 [T.fp (T.Tr D L ts a b k)]) := by
  refine fn_of Tryz.func76 rfl (by show 1 ≤ 4; decide) fun cx hcx => ?_
  refine tri_sub (sl 0 rfl sn) en ?_
  refine tri_seq ?_
  refine tri_reg mixed hcx ?_ _ _
  refine bxs 10 rfl ?_
  refine asg rfl ?_
  refine ⟨by kernel_rfl, ?_⟩
  refine nx (sl 1 rfl sn) (el 10 rfl en) ?_
  refine tri_seq ?_
  refine tri_fzb 1 10 rfl rfl (fun h => Nat.noConfusion h) ?_
  refine tri_reg mixed hcx ?_ _ _
  refine mf rfl ?_
  refine asg rfl ?_
  refine ⟨by kernel_rfl, ?_⟩
  refine nx (sl 2 rfl sn) en ?_
  refine tri_ret ?_
  repeat (first | refine pn_thenr ?_ | refine pn_blkr ?_)
  exact ret1 hcx rfl (rv_tmp rfl) (.refl _) en

theorem t_counted {D : List Int} {L : List (List Int)} {ts : List (Int × Int)} {a b : Int} {n k : Nat} (h : TrS D L ts n k) {s : List Int} (hb : 0 < b) (ha : 0 ≤ a) {m mo : Nat} (hs : s.length ≤ m) (hsl : s.length ≤ 1048576) (hmo : mo ≤ 65536) : Fn Tryz.prog 63 [T.Tr D L ts a b k, T.l (cZi k) s, T.c (.int .i64 (m : Int)), T.c (.int .i64 (mo : Int))] [] [] [] (T.c (.int .i64 0)) := by
  refine fn_of Tryz.func63 rfl (by show 4 ≤ 23; decide) fun cx hcx => ?_
  refine tri_sub (sl 0 rfl (sl 1 rfl (sl 2 rfl (sl 3 rfl sn)))) en ?_
  refine tri_seq ?_
  refine tri_reg mixed hcx ?_ _ _
  refine bxs 10 rfl ?_
  refine asg rfl ?_
  refine ⟨by kernel_rfl, ?_⟩
  refine nx (sl 1 rfl (sl 2 rfl (sl 3 rfl (sl 4 rfl sn)))) (el 10 rfl en) ?_
  refine tri_seq ?_
  refine tri_seq ?_
  refine tri_reg mixed hcx ?_ _ _
  refine ld rfl rfl tyTr rfl ?_
  refine mv rfl ?_
  refine mv rfl ?_
  refine ca rfl (h := t_fits h hb ha (m := m) (by omega) (by omega)) (hn := ?_)
  refine asg rfl ?_
  refine ⟨by kernel_rfl, ?_⟩
  refine nx (sl 3 rfl (sl 9 rfl sn)) (el 10 rfl en) ?_
  refine tri_seq ?_
  refine tri_reg mixed hcx ?_ _ _
  refine mv rfl ?_
  refine cne rfl rfl (decide_eq_false (by omega)) ?_
  refine ⟨by kernel_rfl, ?_⟩
  refine nx (sl 3 rfl (sl 9 rfl (sl 15 rfl sn))) (el 10 rfl en) ?_
  refine tri_false rfl rfl ?_
  refine tri_skip ?_
  refine nx (sl 3 rfl sn) (el 10 rfl en) ?_
  refine tri_seq ?_
  refine tri_seq ?_
  refine tri_reg mixed hcx ?_ _ _
  refine mv rfl ?_
  refine clt rfl rfl (decide_eq_false (by omega)) ?_
  refine mv rfl ?_
  refine mv rfl ?_ (hg := gd1)
  refine cgt rfl rfl (decide_eq_false (by omega)) ?_ (hg := gd1)
  refine pk rfl rfl ?_
  refine ⟨by kernel_rfl, ?_⟩
  refine nx (sl 22 rfl sn) (el 10 rfl en) ?_
  refine tri_false rfl rfl ?_
  refine tri_skip ?_
  refine nx sn (el 10 rfl en) ?_
  refine tri_seq ?_
  refine tri_reg mixed hcx ?_ _ _
  refine asg rfl ?_
  refine ⟨by kernel_rfl, ?_⟩
  refine nx (sl 8 rfl sn) (el 10 rfl en) ?_
  refine tri_ret ?_
  repeat (first | refine pn_thenr ?_ | refine pn_blkr ?_)
  exact ret1 hcx rfl (rv_tmp rfl) (.refl _) en

theorem t_counted_no {D : List Int} {L : List (List Int)} {ts : List (Int × Int)} {a b : Int} {n k : Nat} (h : TrS D L ts n k) {s : List Int} (hb : 0 < b) (ha : 0 ≤ a) {m : Nat} {mo : Int} (hs : s.length ≤ m) (hsl : s.length ≤ 1048576) (hmo : mo < 0 ∨ 65536 < mo) : Fn Tryz.prog 63 [T.Tr D L ts a b k, T.l (cZi k) s, T.c (.int .i64 (m : Int)), T.c (.int .i64 mo)] [] [] [] (T.c (.int .i64 1)) := by
  refine fn_of Tryz.func63 rfl (by show 4 ≤ 23; decide) fun cx hcx => ?_
  refine tri_sub (sl 0 rfl (sl 1 rfl (sl 2 rfl (sl 3 rfl sn)))) en ?_
  refine tri_seq ?_
  refine tri_reg mixed hcx ?_ _ _
  refine bxs 10 rfl ?_
  refine asg rfl ?_
  refine ⟨by kernel_rfl, ?_⟩
  refine nx (sl 1 rfl (sl 2 rfl (sl 3 rfl (sl 4 rfl sn)))) (el 10 rfl en) ?_
  refine tri_seq ?_
  refine tri_seq ?_
  refine tri_reg mixed hcx ?_ _ _
  refine ld rfl rfl tyTr rfl ?_
  refine mv rfl ?_
  refine mv rfl ?_
  refine ca rfl (h := t_fits h hb ha (m := m) (by omega) (by omega)) (hn := ?_)
  refine asg rfl ?_
  refine ⟨by kernel_rfl, ?_⟩
  refine nx (sl 3 rfl (sl 9 rfl sn)) (el 10 rfl en) ?_
  refine tri_seq ?_
  refine tri_reg mixed hcx ?_ _ _
  refine mv rfl ?_
  refine cne rfl rfl (decide_eq_false (by omega)) ?_
  refine ⟨by kernel_rfl, ?_⟩
  refine nx (sl 3 rfl (sl 9 rfl (sl 15 rfl sn))) (el 10 rfl en) ?_
  refine tri_false rfl rfl ?_
  refine tri_skip ?_
  refine nx (sl 3 rfl sn) (el 10 rfl en) ?_
  refine tri_seq ?_
  refine tri_seq ?_
  by_cases hneg : mo < 0
  · refine tri_reg mixed hcx ?_ _ _
    refine mv rfl ?_
    refine clt rfl rfl (decide_eq_true (by omega)) ?_
    refine mv rfl ?_
    refine j_off rfl rfl rfl rfl ?_
    refine j_off rfl rfl rfl rfl ?_
    refine pk rfl rfl ?_
    refine ⟨by kernel_rfl, ?_⟩
    refine nx (sl 22 rfl sn) (el 10 rfl en) ?_
    refine tri_true rfl rfl ?_
    refine tri_seq ?_
    refine tri_reg mixed hcx ?_ _ _
    refine asg rfl ?_
    refine ⟨by kernel_rfl, ?_⟩
    refine nx (sl 8 rfl sn) (el 10 rfl en) ?_
    refine tri_ret ?_
    repeat (first | refine pn_thenr ?_ | refine pn_blkr ?_)
    exact ret1 hcx rfl (rv_tmp rfl) (.refl _) en
  · refine tri_reg mixed hcx ?_ _ _
    refine mv rfl ?_
    refine clt rfl rfl (decide_eq_false (by omega)) ?_
    refine mv rfl ?_
    refine mv rfl ?_ (hg := gd1)
    refine cgt rfl rfl (decide_eq_true (by omega)) ?_ (hg := gd1)
    refine pk rfl rfl ?_
    refine ⟨by kernel_rfl, ?_⟩
    refine nx (sl 22 rfl sn) (el 10 rfl en) ?_
    refine tri_true rfl rfl ?_
    refine tri_seq ?_
    refine tri_reg mixed hcx ?_ _ _
    refine asg rfl ?_
    refine ⟨by kernel_rfl, ?_⟩
    refine nx (sl 8 rfl sn) (el 10 rfl en) ?_
    refine tri_ret ?_
    repeat (first | refine pn_thenr ?_ | refine pn_blkr ?_)
    exact ret1 hcx rfl (rv_tmp rfl) (.refl _) en

theorem t_Count {D : List Int} {L : List (List Int)} {ts : List (Int × Int)} {a b : Int} {n k : Nat} (h : TrS D L ts n k) (hb : 0 < b) (ha : 0 ≤ a) {ns : List (List Int)} {mo : Nat} (hmo : mo ≤ 65536) (hB : Bel D L ts n k ((a : Rat) / (b : Rat)) [] 0 ns) : Fn Tryz.prog 26 [T.Tr D L ts a b k, T.c (.int .i64 (mo : Int))] [] [] [] (T.tup [T.l cI (cnt n ns (if ns.length ≤ mo then ns.length else mo)), T.c (.bool (decide (ns.length ≤ mo))), T.c (.int .i64 0)]) := by
  refine fn_ofM Tryz.func26 rfl (by show 2 ≤ 40; decide) fun cx hcx => ?_
  refine tri_sub (sl 0 rfl (sl 1 rfl sn)) en ?_
  have hn12 := h.twelve
  have hkk := h.hk
  have hlL := h.len
  have hn0 := h.pos
  refine tri_seq ?_
  refine tri_reg mixed hcx ?_ _ _
  refine bxs 10 rfl ?_
  refine bx 11 rfl ?_
  refine nw 12 zeIs ?_
  refine nw 13 zeB ?_
  refine nw 14 zeE ?_
  refine ⟨by kernel_rfl, ?_⟩
  refine nx (sl 2 rfl (sl 3 rfl (sl 4 rfl (sl 5 rfl (sl 6 rfl sn))))) (el 10 rfl (el 11 rfl (el 12 rfl (el 13 rfl (el 14 rfl en))))) ?_
  refine tri_seq ?_
  refine tri_seq ?_
  refine tri_reg mixed hcx ?_ _ _
  refine ld rfl rfl tyTr rfl ?_
  refine ld rfl rfl tyI rfl ?_
  refine ca rfl (h := t_counted (s := []) (m := 0) h hb ha (Nat.le_refl _) (by simp) hmo) (hn := ?_)
  refine asg rfl ?_
  refine ⟨by kernel_rfl, ?_⟩
  refine nx (sl 2 rfl (sl 3 rfl (sl 4 rfl (sl 5 rfl (sl 6 rfl (sl 7 rfl sn)))))) (el 10 rfl (el 11 rfl (el 12 rfl (el 13 rfl (el 14 rfl en))))) ?_
  refine tri_seq ?_
  refine tri_reg mixed hcx ?_ _ _
  refine mv rfl ?_
  refine cne rfl rfl (decide_eq_false (by omega)) ?_
  refine ⟨by kernel_rfl, ?_⟩
  refine nx (sl 2 rfl (sl 3 rfl (sl 4 rfl (sl 5 rfl (sl 6 rfl (sl 7 rfl (sl 15 rfl sn))))))) (el 10 rfl (el 11 rfl (el 12 rfl (el 13 rfl (el 14 rfl en))))) ?_
  refine tri_false rfl rfl ?_
  refine tri_skip ?_
  refine nx (sl 2 rfl (sl 3 rfl (sl 4 rfl (sl 5 rfl (sl 6 rfl sn))))) (el 10 rfl (el 11 rfl (el 12 rfl (el 13 rfl (el 14 rfl en))))) ?_
  refine tri_seq ?_
  refine tri_reg mixed hcx ?_ _ _
  refine fa rfl fTrG 0 ?_
  refine fa rfl fL 1 ?_
  refine ld rfl rfl tyZss rfl ?_
  refine ln slZss rfl ?_
  refine mkz (c := cI) (n := L.length) 414 slIs rfl (by omega) (fun u => ⟨zvI, zrI u⟩) (by decide) ?_
  refine nw 415 zeIs ?_
  refine st rfl rfl rfl tyIs rfl ?_
  refine ⟨by kernel_rfl, ?_⟩
  refine nx (sl 2 rfl (sl 3 rfl (sl 4 rfl (sl 5 rfl (sl 6 rfl (sl 8 rfl sn)))))) (el 10 rfl (el 11 rfl (el 12 rfl (el 13 rfl (el 14 rfl (el 414 rfl (el 415 rfl en))))))) ?_
  refine tri_seq ?_
  refine tri_reg mixed hcx ?_ _ _
  refine nw 510 zeI ?_
  refine st rfl rfl rfl tyI rfl ?_
  refine ⟨by kernel_rfl, ?_⟩
  refine nx (sl 2 rfl (sl 3 rfl (sl 4 rfl (sl 5 rfl (sl 6 rfl (sl 8 rfl (sl 9 rfl sn))))))) (el 10 rfl (el 11 rfl (el 12 rfl (el 13 rfl (el 14 rfl (el 414 rfl (el 415 rfl (el 510 rfl en)))))))) ?_
  refine tri_seq ?_
  refine tri_seq ?_
  rcases Nat.lt_or_ge mo ns.length with hlt | hle
  · refine tri_reg mixed hcx ?_ _ _
    refine ld rfl rfl tyTr rfl ?_
    refine ca rfl (h := t_each) (hn := ?_)
    refine ⟨by kernel_rfl, ?_⟩
    refine nx (sl 3 rfl (sl 4 rfl (sl 5 rfl (sl 6 rfl (sl 8 rfl (sl 9 rfl (sl 23 rfl sn))))))) (el 10 rfl (el 11 rfl (el 12 rfl (el 13 rfl (el 14 rfl (el 414 rfl (el 415 rfl (el 510 rfl en)))))))) ?_
    refine tri_block ?_
    refine tri_range (ι := Nat) (κ := Unit) (f := 128) (Caps := [T.fp (T.Tr D L ts a b k)]) (R := T.tup []) (g' := [(3, T.p 11 0), (4, T.p 12 0), (5, T.p 13 0), (6, T.p 14 0), (8, T.p 415 0), (9, T.p 510 0)]) (fun j => [(11, some (Ent.box 3 [T.c (.int .i64 (mo : Int))])), (12, some (Ent.box 58 [T.c (.slice none 0 0)])), (13, some (Ent.box 4 [T.c (.bool false)])), (14, some (Ent.box 41 [T.c (.int .i64 0)])), (414, some (Ent.row cI 3 (cnt n ns j))), (415, some (Ent.box 58 [T.o 414])), (510, some (Ent.box 3 [T.c (.int .i64 ((j : Nat) : Int))]))]) (fun _ => [(11, some (Ent.box 3 [T.c (.int .i64 (mo : Int))])), (12, some (Ent.box 58 [T.o 414])), (13, some (Ent.box 4 [T.c (.bool false)])), (14, some (Ent.box 41 [T.c (.int .i64 0)])), (414, some (Ent.row cI 3 (cnt n ns mo))), (415, some (Ent.box 58 [T.o 414])), (510, some (Ent.box 3 [T.c (.int .i64 ((mo : Nat) : Int))]))]) (fun _ => .ret) (fun j X o => (j < mo ∧ X = T.l (cZi k) (ns.getD j []) ∧ o = .inl (j + 1)) ∨ (j = mo ∧ X = T.l (cZi k) (ns.getD j []) ∧ o = .inr ())) (0) (.inr ()) rfl hcx rfl (by intro a w; kernel_rfl) (by decide) (sl 3 rfl (sl 4 rfl (sl 5 rfl (sl 6 rfl (sl 8 rfl (sl 9 rfl sn)))))) (el 11 rfl (el 12 rfl (el 13 rfl (el 14 rfl (ew 414 rfl (.of (by rw [hlL]; rfl)) (el 415 rfl (el 510 rfl en))))))) ?_ ?_ ?_ ?_
    · intro lw W V hW
      exact t_each1 (Z := W) (zf := V ()) (K := mo) h hb hB (by omega) (fun j hj => hW j _ (.inl (j + 1)) (.inl ⟨hj, rfl, rfl⟩)) (fun _ => hW mo _ (.inr ()) (.inr ⟨rfl, rfl, rfl⟩)) (fun h => absurd h (by omega))
    · rintro j X o (⟨_, rfl, _⟩ | ⟨_, rfl, _⟩) <;> rfl
    · rintro lr dB rr c' hrd hdf hcx' j X o (⟨hj, rfl, rfl⟩ | ⟨hj, rfl, rfl⟩)
      · have hbl := hB.len rfl j (by omega)
        have hcl := cnt_len n ns j
        have hcb : 0 ≤ (cnt n ns j).getD ((ns.getD j []).length - 1) cI.dflt ∧ (cnt n ns j).getD ((ns.getD j []).length - 1) cI.dflt ≤ (j : Int) := cnt_b n ns j ((ns.getD j []).length - 1)
        refine tri_reg mixed hcx' ?_ _ _
        refine asg rfl ?_
        refine ⟨by kernel_rfl, ?_⟩
        refine nx_begin hrd rfl (sl 3 rfl (sl 4 rfl (sl 5 rfl (sl 6 rfl (sl 8 rfl (sl 9 rfl (sl 10 rfl sn))))))) (el 702 rfl (el 701 rfl (el 11 rfl (el 12 rfl (el 13 rfl (el 14 rfl (el 414 rfl (el 415 rfl (el 510 rfl en))))))))) ?_
        refine tri_block ?_
        refine tri_seq ?_
        refine tri_seq ?_
        refine tri_reg mixed hcx' ?_ _ _
        refine ld rfl rfl tyI rfl ?_
        refine ld rfl rfl tyI rfl ?_
        refine ceq rfl rfl (decide_eq_false (by omega)) ?_
        refine ⟨by kernel_rfl, ?_⟩
        refine nx (sl 4 rfl (sl 5 rfl (sl 6 rfl (sl 8 rfl (sl 9 rfl (sl 10 rfl (sl 27 rfl sn))))))) (el 702 rfl (el 701 rfl (el 11 rfl (el 12 rfl (el 13 rfl (el 14 rfl (el 414 rfl (el 415 rfl (el 510 rfl en))))))))) ?_
        refine tri_false rfl rfl ?_
        refine tri_skip ?_
        refine nx (sl 8 rfl (sl 9 rfl (sl 10 rfl sn))) (el 702 rfl (el 701 rfl (el 11 rfl (el 12 rfl (el 13 rfl (el 14 rfl (el 414 rfl (el 415 rfl (el 510 rfl en))))))))) ?_
        refine tri_seq ?_
        refine tri_reg mixed hcx' ?_ _ _
        refine ld rfl rfl tyIs rfl ?_
        refine mv rfl ?_
        refine ln slZs rfl ?_
        refine sb ((((ns.getD j []).length - 1 : Nat) : Int)) rfl rfl rfl (by omega) ?_
        refine ixo rfl rfl rfl slIs ⟨rfl, by omega⟩ ?_
        refine lo ((ns.getD j []).length - 1) rfl rfl tyI ⟨rfl, rfl, by omega⟩ ?_
        refine ad (((cnt n ns j).getD ((ns.getD j []).length - 1) cI.dflt + 1)) rfl rfl rfl (by omega) ?_
        refine ixo rfl rfl rfl slIs ⟨rfl, by omega⟩ ?_
        refine so rfl rfl rfl (.refl _) tyI ⟨rfl, by omega⟩ ?_
        refine ⟨by kernel_rfl, ?_⟩
        refine nx (sl 9 rfl sn) (el 702 rfl (el 701 rfl (el 11 rfl (el 12 rfl (el 13 rfl (el 14 rfl (el 414 rfl (el 415 rfl (el 510 rfl en))))))))) ?_
        refine tri_reg mixed hcx' ?_ _ _
        refine ld rfl rfl tyI rfl ?_
        refine ad (((j + 1 : Nat) : Int)) rfl rfl rfl (by omega) ?_
        refine st rfl rfl rfl tyI rfl ?_
        refine ⟨by kernel_rfl, ?_⟩
        refine pn_blk ?_
        exact rq_go (el 702 rfl (el 701 rfl (el 11 rfl (el 12 rfl (el 13 rfl (el 14 rfl (el 414 rfl (el 415 rfl (el 510 rfl en)))))))))
      · refine tri_reg mixed hcx' ?_ _ _
        refine asg rfl ?_
        refine ⟨by kernel_rfl, ?_⟩
        refine nx_begin hrd rfl (sl 3 rfl (sl 4 rfl (sl 5 rfl (sl 6 rfl (sl 8 rfl (sl 9 rfl (sl 10 rfl sn))))))) (el 702 rfl (el 701 rfl (el 11 rfl (el 12 rfl (el 13 rfl (el 14 rfl (el 414 rfl (el 415 rfl (el 510 rfl en))))))))) ?_
        refine tri_block ?_
        refine tri_seq ?_
        refine tri_seq ?_
        refine tri_reg mixed hcx' ?_ _ _
        refine ld rfl rfl tyI rfl ?_
        refine ld rfl rfl tyI rfl ?_
        refine ceq rfl rfl (decide_eq_true (by omega)) ?_
        refine ⟨by kernel_rfl, ?_⟩
        refine nx (sl 4 rfl (sl 5 rfl (sl 6 rfl (sl 8 rfl (sl 9 rfl (sl 10 rfl (sl 27 rfl sn))))))) (el 702 rfl (el 701 rfl (el 11 rfl (el 12 rfl (el 13 rfl (el 14 rfl (el 414 rfl (el 415 rfl (el 510 rfl en))))))))) ?_
        refine tri_true rfl rfl ?_
        refine tri_seq ?_
        refine tri_reg mixed hcx' ?_ _ _
        refine ld rfl rfl tyIs rfl ?_
        refine st rfl rfl rfl tyIs rfl ?_
        refine st rfl rfl rfl tyB rfl ?_
        refine st rfl rfl rfl tyE rfl ?_
        refine ⟨by kernel_rfl, ?_⟩
        refine nx (sl 4 rfl (sl 5 rfl (sl 6 rfl sn))) (el 702 rfl (el 701 rfl (el 11 rfl (el 12 rfl (el 13 rfl (el 14 rfl (el 414 rfl (el 415 rfl (el 510 rfl en))))))))) ?_
        refine tri_ret ?_
        repeat (first | refine pn_thenr ?_ | refine pn_blkr ?_)
        exact rq_ret (el 702 rfl (el 701 rfl (el 11 rfl (el 12 rfl (el 13 rfl (el 14 rfl (ew 414 rfl (.of (by rw [hj])) (el 415 rfl (ew 510 rfl (.of (by rw [hj])) en)))))))))
    · intro lr dB oo
      refine done_stop ?_
      refine tri_fz 414 rfl ?_
      refine tri_rdb (bl := [T.o 414]) (bl' := [T.l cI (cnt n ns mo)]) 12 414 rfl rfl ⟨.inr ⟨rfl, rfl⟩, trivial⟩ ?_
      refine tri_ret ?_
      repeat (first | refine pn_thenr ?_ | refine pn_blkr ?_)
      refine ret_M1 (.inl rfl) rfl rfl ?_
      exact ret3 hcx rfl (rv_cell (c' := cx) (n := 0) rfl rfl tyIs rfl) (rv_cell (c' := cx) (n := 0) rfl rfl tyB rfl) (rv_cell (c' := cx) (n := 0) rfl rfl tyE rfl) (tup_le ⟨.of (by rw [if_neg (by omega)]), .of (by rw [decide_eq_false (by omega)]), .refl _, trivial⟩) en
  · refine tri_reg mixed hcx ?_ _ _
    refine ld rfl rfl tyTr rfl ?_
    refine ca rfl (h := t_each) (hn := ?_)
    refine ⟨by kernel_rfl, ?_⟩
    refine nx (sl 3 rfl (sl 4 rfl (sl 5 rfl (sl 6 rfl (sl 8 rfl (sl 9 rfl (sl 23 rfl sn))))))) (el 10 rfl (el 11 rfl (el 12 rfl (el 13 rfl (el 14 rfl (el 414 rfl (el 415 rfl (el 510 rfl en)))))))) ?_
    refine tri_block ?_
    refine tri_range (ι := Nat) (κ := Unit) (f := 128) (Caps := [T.fp (T.Tr D L ts a b k)]) (R := T.tup []) (g' := [(3, T.p 11 0), (4, T.p 12 0), (5, T.p 13 0), (6, T.p 14 0), (8, T.p 415 0), (9, T.p 510 0)]) (fun j => [(11, some (Ent.box 3 [T.c (.int .i64 (mo : Int))])), (12, some (Ent.box 58 [T.c (.slice none 0 0)])), (13, some (Ent.box 4 [T.c (.bool false)])), (14, some (Ent.box 41 [T.c (.int .i64 0)])), (414, some (Ent.row cI 3 (cnt n ns j))), (415, some (Ent.box 58 [T.o 414])), (510, some (Ent.box 3 [T.c (.int .i64 ((j : Nat) : Int))]))]) (fun _ => [(11, some (Ent.box 3 [T.c (.int .i64 (mo : Int))])), (12, some (Ent.box 58 [T.o 414])), (13, some (Ent.box 4 [T.c (.bool false)])), (14, some (Ent.box 41 [T.c (.int .i64 0)])), (414, some (Ent.row cI 3 (cnt n ns mo))), (415, some (Ent.box 58 [T.o 414])), (510, some (Ent.box 3 [T.c (.int .i64 ((mo : Nat) : Int))]))]) (fun _ => .ret) (fun j X o => j < ns.length ∧ X = T.l (cZi k) (ns.getD j []) ∧ o = .inl (j + 1)) (0) (.inl ns.length) rfl hcx rfl (by intro a w; kernel_rfl) (by decide) (sl 3 rfl (sl 4 rfl (sl 5 rfl (sl 6 rfl (sl 8 rfl (sl 9 rfl sn)))))) (el 11 rfl (el 12 rfl (el 13 rfl (el 14 rfl (ew 414 rfl (.of (by rw [hlL]; rfl)) (el 415 rfl (el 510 rfl en))))))) ?_ ?_ ?_ ?_
    · intro lw W V hW
      exact t_each1 (Z := W) (zf := W ns.length) (K := ns.length) h hb hB (Nat.le_refl _) (fun j hj => hW j _ (.inl (j + 1)) ⟨hj, rfl, rfl⟩) (fun h => absurd h (Nat.lt_irrefl _)) (fun _ => rfl)
    · rintro j X o ⟨_, rfl, _⟩ <;> rfl
    · rintro lr dB rr c' hrd hdf hcx' j X o ⟨hj, rfl, rfl⟩
      · have hbl := hB.len rfl j (by omega)
        have hcl := cnt_len n ns j
        have hcb : 0 ≤ (cnt n ns j).getD ((ns.getD j []).length - 1) cI.dflt ∧ (cnt n ns j).getD ((ns.getD j []).length - 1) cI.dflt ≤ (j : Int) := cnt_b n ns j ((ns.getD j []).length - 1)
        refine tri_reg mixed hcx' ?_ _ _
        refine asg rfl ?_
        refine ⟨by kernel_rfl, ?_⟩
        refine nx_begin hrd rfl (sl 3 rfl (sl 4 rfl (sl 5 rfl (sl 6 rfl (sl 8 rfl (sl 9 rfl (sl 10 rfl sn))))))) (el 702 rfl (el 701 rfl (el 11 rfl (el 12 rfl (el 13 rfl (el 14 rfl (el 414 rfl (el 415 rfl (el 510 rfl en))))))))) ?_
        refine tri_block ?_
        refine tri_seq ?_
        refine tri_seq ?_
        refine tri_reg mixed hcx' ?_ _ _
        refine ld rfl rfl tyI rfl ?_
        refine ld rfl rfl tyI rfl ?_
        refine ceq rfl rfl (decide_eq_false (by omega)) ?_
        refine ⟨by kernel_rfl, ?_⟩
        refine nx (sl 4 rfl (sl 5 rfl (sl 6 rfl (sl 8 rfl (sl 9 rfl (sl 10 rfl (sl 27 rfl sn))))))) (el 702 rfl (el 701 rfl (el 11 rfl (el 12 rfl (el 13 rfl (el 14 rfl (el 414 rfl (el 415 rfl (el 510 rfl en))))))))) ?_
        refine tri_false rfl rfl ?_
        refine tri_skip ?_
        refine nx (sl 8 rfl (sl 9 rfl (sl 10 rfl sn))) (el 702 rfl (el 701 rfl (el 11 rfl (el 12 rfl (el 13 rfl (el 14 rfl (el 414 rfl (el 415 rfl (el 510 rfl en))))))))) ?_
        refine tri_seq ?_
        refine tri_reg mixed hcx' ?_ _ _
        refine ld rfl rfl tyIs rfl ?_
        refine mv rfl ?_
        refine ln slZs rfl ?_
        refine sb ((((ns.getD j []).length - 1 : Nat) : Int)) rfl rfl rfl (by omega) ?_
        refine ixo rfl rfl rfl slIs ⟨rfl, by omega⟩ ?_
        refine lo ((ns.getD j []).length - 1) rfl rfl tyI ⟨rfl, rfl, by omega⟩ ?_
        refine ad (((cnt n ns j).getD ((ns.getD j []).length - 1) cI.dflt + 1)) rfl rfl rfl (by omega) ?_
        refine ixo rfl rfl rfl slIs ⟨rfl, by omega⟩ ?_
        refine so rfl rfl rfl (.refl _) tyI ⟨rfl, by omega⟩ ?_
        refine ⟨by kernel_rfl, ?_⟩
        refine nx (sl 9 rfl sn) (el 702 rfl (el 701 rfl (el 11 rfl (el 12 rfl (el 13 rfl (el 14 rfl (el 414 rfl (el 415 rfl (el 510 rfl en))))))))) ?_
        refine tri_reg mixed hcx' ?_ _ _
        refine ld rfl rfl tyI rfl ?_
        refine ad (((j + 1 : Nat) : Int)) rfl rfl rfl (by omega) ?_
        refine st rfl rfl rfl tyI rfl ?_
        refine ⟨by kernel_rfl, ?_⟩
        refine pn_blk ?_
        exact rq_go (el 702 rfl (el 701 rfl (el 11 rfl (el 12 rfl (el 13 rfl (el 14 rfl (el 414 rfl (el 415 rfl (el 510 rfl en)))))))))
    · intro lr dB oo
      refine done_go ?_
      refine pn_blk ?_
      refine nx (sl 4 rfl (sl 5 rfl (sl 6 rfl (sl 8 rfl sn)))) (el 702 rfl (el 701 rfl (el 11 rfl (el 12 rfl (el 13 rfl (el 14 rfl (el 414 rfl (el 415 rfl (el 510 rfl en))))))))) ?_
      refine tri_seq ?_
      refine tri_reg mixed (show (cx.up.put dB).I = _ from hcx) ?_ _ _
      refine ld rfl rfl tyIs rfl ?_
      refine st rfl rfl rfl tyIs rfl ?_
      refine st rfl rfl rfl tyB rfl ?_
      refine st rfl rfl rfl tyE rfl ?_
      refine ⟨by kernel_rfl, ?_⟩
      refine nx (sl 4 rfl (sl 5 rfl (sl 6 rfl sn))) (el 702 rfl (el 701 rfl (el 11 rfl (el 12 rfl (el 13 rfl (el 14 rfl (el 414 rfl (el 415 rfl (el 510 rfl en))))))))) ?_
      refine tri_fz 414 rfl ?_
      refine tri_rdb (bl := [T.o 414]) (bl' := [T.l cI (cnt n ns ns.length)]) 12 414 rfl rfl ⟨.inr ⟨rfl, rfl⟩, trivial⟩ ?_
      refine tri_ret ?_
      repeat (first | refine pn_thenr ?_ | refine pn_blkr ?_)
      refine ret_M1 (.inl rfl) rfl rfl ?_
      exact ret3 hcx rfl (rv_cell (c' := cx) (n := 0) rfl rfl tyIs rfl) (rv_cell (c' := cx) (n := 0) rfl rfl tyB rfl) (rv_cell (c' := cx) (n := 0) rfl rfl tyE rfl) (tup_le ⟨.of (by rw [if_pos hle]), .of (by rw [decide_eq_true hle]), .refl _, trivial⟩) en
end Go.Proofs.YtekghdfbhbhigaaGreat.V
/- Search trees: the call whose answer is known. -/
set_option linter.unusedVariables false
set_option linter.unusedSimpArgs false
set_option maxRecDepth 100000
namespace Go.Proofs.YtekghdfbhbhigaaGreat.V
open Go.RowKit Mt Nml
section
variable {P : Program} {ops : Array Oper} {fin : List OpS → List (Nat × T) → List (Nat × Option Ent) → Prop} {r : List Oper} {H : List OpS} {g : List (Nat × T)} {E : List (Nat × Option Ent)} {o : Oper}
variable {t : Option Nat} {ty : TypeId} {ps : String} {af : Array Edge} {gd : Option (Nat × Bool)} {x y : Operand} {X Y : T} {e off m : Nat} {b : Bool} {l l' : List T} {et : TypeId}
/-- A slice without elements. -/
theorem bs0 {α : Type} {τ : TypeId} {sz bytes : Nat} (c : Cod α) (hT : SlT P et τ sz bytes) (hn : J P ops fin r (OpS.p (T.l c []) :: H) (putg t (T.l c []) g) E) (hg : GuardIs ops g ⟨t, .buildSlice et 0 #[], ty, ps, af, gd⟩ true := by exact gd0) : J P ops fin (⟨t, .buildSlice et 0 #[], ty, ps, af, gd⟩ :: r) H g E :=
  j_val hg (fun ρ β u w F hs he hH => by
    obtain ⟨ht, inf, z, hi, hz0, hz1, hz2, hzc⟩ := hT.info
    have hsf : (sizeOf τ).run P w = .ok sz w := by simp [sizeOf, typeInfo, hi, hz1]
    have hr : (Instr.buildSlice et 0 #[]).run P w = .ok (.slice (some ⟨w.heap.size, 0, none⟩) 0 0) (w.alloc (.cells #[] τ (0, 0))) := by
      unfold Instr.buildSlice
      simp only [Sem.run_bind, run_underlying ht, Result.andThen_ok, hsf]
      rw [if_neg (by omega)]
      simp [newRow, Instr.fill]
      rw [Array.eq_empty_of_size_eq_zero (show (Array.map (fun _ : Nat => (default : Value)) (Array.range 0)).size = 0 by simp)]
    unfold Res
    simp only [execOp, Array.map_empty, Sem.run_bind, hr, Result.andThen_ok, Sem.run_pure]
    exact ⟨u, β, F, fun _ _ => rfl, tr_alloc hs _, Hold.none _ _ _ _, (fun e X k h => by cases h), _, 0, 0, rfl, rfl, Nat.le_refl _, by omega, fun h => absurd h (by omega)⟩) hn
end
theorem tr_flat {A B C D E : T} : (T.st [T.st [A, B], C, T.st [D, E]]).le (T.st [A, B, C, D, E]) := fun β u v ⟨cs, e, v1, r1, _, ⟨cs1, e1, c1⟩, e2, v2, r2, h2, hv2, e3, v3, r3, _, ⟨cs3, e4, c3⟩, e5, e6⟩ => by
  refine ⟨cs, e, ?_⟩
  have h6 : r3 = [] := e6
  subst e1 e4 h6
  have hc : Cells β u ([C] ++ [D, E]) (v2.cells.toList ++ cs3) := Cells.append (l := [C]) ⟨v2, [], h2, hv2, (List.append_nil _).symm, rfl⟩ c3
  have := Cells.append c1 hc
  rw [e2, e3, e5]
  simpa [Value.cells] using this
theorem stTr : StructT Tryz.prog 39 [T.c (.slice none 0 0), T.c (.slice none 0 0), T.c (.slice none 0 0), T.c (.bool false), T.c (.slice none 0 0), T.c (.bool false), T.c (.slice none 0 0)] [(0, 2), (2, 1), (3, 4)] := StructT.mk' (zs := [.slice none 0 0, .slice none 0 0, .slice none 0 0, .bool false, .slice none 0 0, .bool false, .slice none 0 0])
theorem zeTr : Zero Tryz.prog 39 [T.c (.slice none 0 0), T.c (.slice none 0 0), T.c (.slice none 0 0), T.c (.bool false), T.c (.slice none 0 0), T.c (.bool false), T.c (.slice none 0 0)] := zero_of (zs := [.slice none 0 0, .slice none 0 0, .slice none 0 0, .bool false, .slice none 0 0, .bool false, .slice none 0 0]) (z := .agg #[.slice none 0 0, .slice none 0 0, .slice none 0 0, .bool false, .slice none 0 0, .bool false, .slice none 0 0]) (by kernel_rfl)

theorem l11_n {z : Int} (h0 : -9223372036854775808 ≤ z) (h1 : z < 9223372036854775808) : Fn Tryz.prog 14 [T.c (.int .i64 z)] [] [] [] (T.Z z 2) := by
  refine fn_of Tryz.func14 rfl (by show 1 ≤ 5; decide) fun cx hcx => ?_
  refine tri_sub (sl 0 rfl sn) en ?_
  refine tri_seq ?_
  refine tri_reg mixed hcx ?_ _ _
  refine nw 10 zeZ ?_
  refine ⟨by kernel_rfl, ?_⟩
  refine nx (sl 0 rfl (sl 2 rfl sn)) (el 10 rfl en) ?_
  refine tri_seq ?_
  refine tri_reg mixed hcx ?_ _ _
  refine mv rfl ?_
  refine ca rfl (h := r02_Of h0 h1) (hn := ?_)
  refine st rfl rfl rfl tyZ rfl ?_
  refine ⟨by kernel_rfl, ?_⟩
  refine nx (sl 2 rfl sn) (el 10 rfl en) ?_
  refine tri_ret ?_
  repeat (first | refine pn_thenr ?_ | refine pn_blkr ?_)
  exact ret1 hcx rfl (rv_cell (c' := cx) (n := 0) rfl rfl tyZ rfl) (.refl _) en

theorem l11_small  : Fn Tryz.prog 51 [] [] [] [] (T.Tr [1, 1, 1] [[], [0]] [] 1 1 2) := by
  refine fn_of Tryz.func51 rfl (by show 0 ≤ 14; decide) fun cx hcx => ?_
  refine tri_sub sn en ?_
  refine tri_seq ?_
  refine tri_reg mixed hcx ?_ _ _
  refine nw 10 zeTr ?_
  refine ⟨by kernel_rfl, ?_⟩
  refine nx (sl 0 rfl sn) (el 10 rfl en) ?_
  refine tri_seq ?_
  refine tri_reg mixed hcx ?_ _ _
  refine ca rfl (h := l11_n (by decide) (by decide)) (hn := ?_)
  refine ca rfl (h := l11_n (by decide) (by decide)) (hn := ?_)
  refine ca rfl (h := l11_n (by decide) (by decide)) (hn := ?_)
  refine bs (c := cZ 2) (xs := [1, 1, 1]) slZs rfl ⟨.refl _, .refl _, .refl _, trivial⟩ ?_
  refine bs0 (cZ 2) slZs ?_
  refine ca rfl (h := l11_n (by decide) (by decide)) (hn := ?_)
  refine bs (c := cZ 2) (xs := [0]) slZs rfl ⟨.refl _, trivial⟩ ?_
  refine bs (c := cL (cZ 2)) (xs := [[], [0]]) slZss rfl ⟨.refl _, .refl _, trivial⟩ ?_
  refine bu stG rfl ?_
  refine ca rfl (h := l11_n (by decide) (by decide)) (hn := ?_)
  refine ca rfl (h := l11_n (by decide) (by decide)) (hn := ?_)
  refine bu stQ rfl ?_
  refine bu stTr rfl ?_
  refine sts rfl rfl rfl tyTr rfl ?_
  refine ⟨by kernel_rfl, ?_⟩
  refine nx (sl 0 rfl sn) (el 10 rfl en) ?_
  refine tri_ret ?_
  repeat (first | refine pn_thenr ?_ | refine pn_blkr ?_)
  exact ret1 hcx rfl (rv_cell (c' := cx) (n := 0) rfl rfl tyTr rfl) (tr_flat.trans (st_le ⟨IsL.le (c := cZi 2), IsL.le (c := cL (cZi 2)), nil_l _, z_zi _ _, z_zi _ _, trivial⟩)) en

abbrev D0 : List Int := [1, 1, 1]
abbrev L0 : List (List Int) := [[], [0]]
theorem small_T : TrS D0 L0 [] 2 2 where
  good := ⟨by decide, by decide, by decide, fun i hi => by match i, hi with | 0, _ => decide | 1, _ => decide⟩
  len := rfl
  twelve := by decide
  tl := .inl rfl
  tp := fun i hi => absurd hi (Nat.not_lt_zero _)
  zt := fun i hi => absurd hi (Nat.not_lt_zero _)
  zD := fun j => by
    match j with
    | 0 => exact Nat.le_trans zl_one (by decide)
    | 1 => exact Nat.le_trans zl_one (by decide)
    | 2 => exact Nat.le_trans zl_one (by decide)
    | j + 3 => rw [show D0.getD (j + 3) 0 = 0 from rfl, zl_zero]; decide
  zL := fun i j => by
    have : ((L0.getD j [] : List Int).getD i 0) = 0 := by
      match j, i with
      | 0, _ => rfl
      | 1, 0 => rfl
      | 1, i + 1 => rfl
      | j + 2, _ => rfl
    rw [this, zl_zero]; decide
  hk := by decide
def chk (s : List Int) (d m : Nat) : Bool := (List.range (m + 1)).all fun j => decide (-9 ≤ nth (ctT D0 L0 [] s (2 - 1) (2 - 1 - d) d) j) && decide (nth (ctT D0 L0 [] s (2 - 1) (2 - 1 - d) d) j ≤ 9) && (decide (ptT D0 L0 [] (s ++ [nth (ctT D0 L0 [] s (2 - 1) (2 - 1 - d) d) j]) (2 - 1) (d + 1) ≤ ((1 : Int) : Rat) / ((1 : Int) : Rat)) == decide (j < m))
theorem chk_node {s : List Int} {d m : Nat} (hd : d < 2) (h : chk s d m = true) (LL : Nat → List (List Int)) (hB : ∀ j, j < m → Bel D0 L0 [] 2 2 (((1 : Int) : Rat) / ((1 : Int) : Rat)) (s ++ [nth (ctT D0 L0 [] s (2 - 1) (2 - 1 - d) d) j]) (d + 1) (LL j)) : Bel D0 L0 [] 2 2 (((1 : Int) : Rat) / ((1 : Int) : Rat)) s d (fl s (nth (ctT D0 L0 [] s (2 - 1) (2 - 1 - d) d)) LL m) := by
  have hj : ∀ j, j ≤ m → (-9 ≤ nth (ctT D0 L0 [] s (2 - 1) (2 - 1 - d) d) j ∧ nth (ctT D0 L0 [] s (2 - 1) (2 - 1 - d) d) j ≤ 9) ∧ (ptT D0 L0 [] (s ++ [nth (ctT D0 L0 [] s (2 - 1) (2 - 1 - d) d) j]) (2 - 1) (d + 1) ≤ ((1 : Int) : Rat) / ((1 : Int) : Rat) ↔ j < m) := fun j hj => by
    have := List.all_eq_true.1 h j (by simp; omega)
    simp only [Bool.and_eq_true, decide_eq_true_eq, beq_iff_eq] at this
    obtain ⟨⟨a, b⟩, c⟩ := this
    exact ⟨⟨a, b⟩, decide_eq_decide.1 c⟩
  exact Bel.node s d m LL hd (fun j h => zl_of (by have := (hj j h).1; omega) (by have := (hj j h).1; omega)) (fun j h => (hj j (by omega)).2.2 h) (fun h => absurd ((hj m (Nat.le_refl _)).2.1 h) (Nat.lt_irrefl _)) hB
def sub1 (x : Int) (m : Nat) : List (List Int) := fl [x] (nth (ctT D0 L0 [] [x] (2 - 1) (2 - 1 - 1) 1)) (fun _ => []) m
theorem sub1_B {x : Int} {m : Nat} (h : chk [x] 1 m = true) : Bel D0 L0 [] 2 2 (((1 : Int) : Rat) / ((1 : Int) : Rat)) [x] 1 (sub1 x m) := chk_node (by decide) h _ fun j hj => Bel.leaf _
def LLs : Nat → List (List Int)
  | 0 => sub1 0 3
  | 1 => sub1 1 1
  | _ => sub1 (-1) 1
def all8 : List (List Int) := fl [] (nth (ctT D0 L0 [] [] (2 - 1) (2 - 1 - 0) 0)) LLs 3
theorem small_B : Bel D0 L0 [] 2 2 (((1 : Int) : Rat) / ((1 : Int) : Rat)) [] 0 all8 := chk_node (by decide) (by decide +kernel) _ fun j hj => by
  have e0 : nth (ctT D0 L0 [] [] (2 - 1) (2 - 1 - 0) 0) 0 = 0 := by decide +kernel
  have e1 : nth (ctT D0 L0 [] [] (2 - 1) (2 - 1 - 0) 0) 1 = 1 := by decide +kernel
  have e2 : nth (ctT D0 L0 [] [] (2 - 1) (2 - 1 - 0) 0) 2 = -1 := by decide +kernel
  match j, hj with
  | 0, _ => rw [e0]; exact sub1_B (by decide +kernel)
  | 1, _ => rw [e1]; exact sub1_B (by decide +kernel)
  | 2, _ => rw [e2]; exact sub1_B (by decide +kernel)
theorem all8_len : all8.length = 8 := by decide +kernel
theorem all8_cnt : cnt 2 all8 8 = [3, 5] := by decide +kernel

theorem t_Count8 : Fn Tryz.prog 26 [T.Tr D0 L0 [] 1 1 2, T.c (.int .i64 100)] [] [] [] (T.tup [T.l cI [3, 5], T.c (.bool true), T.c (.int .i64 0)]) := by
  have := t_Count small_T (a := 1) (b := 1) (by decide) (by decide) (mo := 100) (by decide) small_B
  rw [if_pos (by rw [all8_len]; decide), all8_len, all8_cnt] at this
  exact this

theorem l11_awake  : Fn Tryz.prog 10 [] [] [] [] (T.c (.bool true)) := by
  refine fn_of Tryz.func10 rfl (by show 0 ≤ 32; decide) fun cx hcx => ?_
  refine tri_sub sn en ?_
  refine tri_seq ?_
  refine tri_reg mixed hcx ?_ _ _
  refine asg rfl ?_
  refine ⟨by kernel_rfl, ?_⟩
  refine nx sn en ?_
  refine tri_seq ?_
  refine tri_reg mixed hcx ?_ _ _
  refine ca rfl (h := l11_small) (hn := ?_)
  refine ca rfl (h := t_Count8) (hn := ?_)
  refine mv rfl ?_
  refine ex rfl rfl ?_
  refine ex rfl rfl ?_
  refine ex rfl rfl ?_
  refine asg rfl ?_
  refine asg rfl ?_
  refine asg rfl ?_
  refine ⟨by kernel_rfl, ?_⟩
  refine nx (sl 1 rfl (sl 2 rfl (sl 3 rfl sn))) en ?_
  refine tri_seq ?_
  refine tri_reg mixed hcx ?_ _ _
  refine mv rfl ?_
  refine ceq rfl rfl rfl ?_
  refine mv rfl ?_
  refine mv rfl ?_ (hg := gd1)
  refine pk rfl rfl ?_
  refine mv rfl ?_
  refine mv rfl ?_ (hg := gd1)
  refine ln slIs rfl ?_ (hg := gd1)
  refine ceq rfl rfl rfl ?_ (hg := gd1)
  refine pk rfl rfl ?_
  refine mv rfl ?_
  refine mv rfl ?_ (hg := gd1)
  refine ix rfl rfl slIs ⟨rfl, by decide⟩ ?_ (hg := gd1)
  refine lf rfl tyI ?_ (hg := gd1)
  refine ceq rfl rfl rfl ?_ (hg := gd1)
  refine pk rfl rfl ?_
  refine mv rfl ?_
  refine mv rfl ?_ (hg := gd1)
  refine ix rfl rfl slIs ⟨rfl, by decide⟩ ?_ (hg := gd1)
  refine lf rfl tyI ?_ (hg := gd1)
  refine ceq rfl rfl rfl ?_ (hg := gd1)
  refine pk rfl rfl ?_
  refine asg rfl ?_
  refine ⟨by kernel_rfl, ?_⟩
  refine nx (sl 0 rfl sn) en ?_
  refine tri_ret ?_
  repeat (first | refine pn_thenr ?_ | refine pn_blkr ?_)
  exact ret1 hcx rfl (rv_tmp rfl) (.refl _) en
end Go.Proofs.YtekghdfbhbhigaaGreat.V
/- Search trees: nearer numbers come first. -/
set_option linter.unusedVariables false
set_option linter.unusedSimpArgs false
set_option maxRecDepth 100000
namespace Go.Proofs.YtekghdfbhbhigaaGreat.V
open Go.RowKit Mt Nml
theorem num_neg {q : Rat} : q < 0 ↔ q.num < 0 := rat_neg_iff (M := (q.den : Int)) (den_p' q) (by
  have h := rat_nd q
  have hne : (((q.den : Int)) : Rat) ≠ 0 := rat_ne (by have := den_p' q; omega)
  generalize ((q.num : Int) : Rat) = x at *
  generalize (((q.den : Int)) : Rat) = d at *
  subst h
  grind)
theorem sgq_lt {x y : Rat} (h : x < y) : sg (x - y).num < 0 := by
  have h1 : x - y < 0 := by grind
  have := num_neg.1 h1
  unfold sg sgnc
  rw [if_pos (by omega)]
  decide
theorem sgq_eq {x y : Rat} (h : x = y) : sg (x - y).num = 0 := by
  subst h
  rw [show x - x = 0 by grind]
  decide
theorem r3v_Cmp {x y : Rat} {k l : Nat} (hk : k ≤ 17179869184) (hl : l ≤ 17179869184) : Fn Tryz.prog 31 [T.V x k, T.V y l] [] [] [] (T.c (.int .i64 (sg (x - y).num))) := fn_v [] fun p p1 p2 p3 p4 => fn_v [T.Qi p.1 p.2 k] (Bs := []) fun q q1 q2 q3 q4 => fn_out (r03_CmpG p1 q1 hk hl) (.of (by rw [p2, q2]))

end Go.Proofs.YtekghdfbhbhigaaGreat.V
/- Search trees: the document's numbers about a centre. -/
set_option linter.unusedVariables false
set_option linter.unusedSimpArgs false
set_option maxRecDepth 100000
namespace Go.Proofs.YtekghdfbhbhigaaGreat.V
open Go.RowKit Mt Nml
theorem l11_whole {z : Int} {k l : Nat} (hk : k ≤ 17592186044416) : Fn Tryz.prog 30 [T.Z z k, T.Z z l] [] [] [] (T.c (.bool true)) := by
  refine fn_of Tryz.func30 rfl (by show 2 ≤ 38; decide) fun cx hcx => ?_
  refine tri_sub (sl 0 rfl (sl 1 rfl sn)) en ?_
  refine tri_z 0 rfl fun hz => ?_
  have hzl : (dig z.natAbs).length ≤ k := hz
  refine tri_seq ?_
  refine tri_reg mixed hcx ?_ _ _
  refine bxs 10 rfl ?_
  refine bxs 11 rfl ?_
  refine asg rfl ?_
  refine ⟨by kernel_rfl, ?_⟩
  refine nx (sl 2 rfl (sl 3 rfl sn)) (el 10 rfl (el 11 rfl en)) ?_
  refine tri_seq ?_
  refine tri_seq ?_
  refine tri_reg mixed hcx ?_ _ _
  refine fa rfl fNeg 0 ?_
  refine ld rfl rfl tyB rfl ?_
  refine fa rfl fNeg 0 ?_
  refine ld rfl rfl tyB rfl ?_
  refine neb (q := false) rfl rfl (by simp) ?_
  refine mv rfl ?_
  refine fa rfl fMag 1 ?_ (hg := gd1)
  refine ld rfl rfl tyLs rfl ?_ (hg := gd1)
  refine ln slLs rfl ?_ (hg := gd1)
  refine fa rfl fMag 1 ?_ (hg := gd1)
  refine ld rfl rfl tyLs rfl ?_ (hg := gd1)
  refine ln slLs rfl ?_ (hg := gd1)
  refine cne rfl rfl (decide_eq_false (by omega)) ?_ (hg := gd1)
  refine pk rfl rfl ?_
  refine ⟨by kernel_rfl, ?_⟩
  refine nx (sl 2 rfl (sl 3 rfl (sl 19 rfl sn))) (el 10 rfl (el 11 rfl en)) ?_
  refine tri_false rfl rfl ?_
  refine tri_skip ?_
  refine nx (sl 2 rfl (sl 3 rfl sn)) (el 10 rfl (el 11 rfl en)) ?_
  refine tri_seq ?_
  refine tri_seq ?_
  refine tri_reg mixed hcx ?_ _ _
  refine asg rfl ?_
  refine ⟨by kernel_rfl, ?_⟩
  refine nx (sl 2 rfl (sl 3 rfl (sl 5 rfl sn))) (el 10 rfl (el 11 rfl en)) ?_
  refine tri_block ?_
  refine tri_loop (ι := Nat) (fun i => [(2, T.p 10 0), (3, T.p 11 0), (5, T.c (.int .i64 (i : Int)))]) (fun i => [(10, some (Ent.box 32 [T.c (.bool (decide (z < 0))), T.l cU (dig (z).natAbs)])), (11, some (Ent.box 32 [T.c (.bool (decide (z < 0))), T.l cU (dig (z).natAbs)]))]) (fun i => (dig z.natAbs).length - i) (fun i => (i ≤ (dig z.natAbs).length)) 0 (Nat.zero_le _) (sl 2 rfl (sl 3 rfl (sl 5 rfl sn))) (el 10 rfl (el 11 rfl en)) ?_
  rintro i hi
  refine tri_sub (sl 2 rfl (sl 3 rfl (sl 5 rfl sn))) (el 10 rfl (el 11 rfl en)) ?_
  refine tri_seq ?_
  refine tri_seq ?_
  refine tri_reg mixed hcx ?_ _ _
  refine mv rfl ?_
  refine fa rfl fMag 1 ?_
  refine ld rfl rfl tyLs rfl ?_
  refine ln slLs rfl ?_
  refine clt rfl rfl rfl ?_
  refine ⟨by kernel_rfl, ?_⟩
  refine nx (sl 2 rfl (sl 3 rfl (sl 5 rfl (sl 24 rfl sn)))) (el 10 rfl (el 11 rfl en)) ?_
  refine tri_if rfl (fun hc => ?_) (fun hc => ?_)
  · refine tri_skip ?_
    refine nx (sl 2 rfl (sl 3 rfl (sl 5 rfl sn))) (el 10 rfl (el 11 rfl en)) ?_
    refine tri_seq ?_
    refine tri_block ?_
    refine tri_seq ?_
    refine tri_reg mixed hcx ?_ _ _
    refine fa rfl fMag 1 ?_
    refine ld rfl rfl tyLs rfl ?_
    refine mv rfl ?_
    refine ix rfl rfl slLs ⟨rfl, by omega⟩ ?_
    refine lf rfl tyU32 ?_
    refine fa rfl fMag 1 ?_
    refine ld rfl rfl tyLs rfl ?_
    refine mv rfl ?_
    refine ix rfl rfl slLs ⟨rfl, by omega⟩ ?_
    refine lf rfl tyU32 ?_
    refine cne rfl rfl (decide_eq_false (by omega)) ?_
    refine ⟨by kernel_rfl, ?_⟩
    refine nx (sl 2 rfl (sl 3 rfl (sl 5 rfl (sl 37 rfl sn)))) (el 10 rfl (el 11 rfl en)) ?_
    refine tri_false rfl rfl ?_
    refine tri_skip ?_
    refine pn_blk ?_
    refine nx (sl 2 rfl (sl 3 rfl (sl 5 rfl sn))) (el 10 rfl (el 11 rfl en)) ?_
    refine tri_reg mixed hcx ?_ _ _
    refine mv rfl ?_
    refine ad (((i + 1 : Nat) : Int)) rfl rfl rfl (by omega) ?_
    refine asg rfl ?_
    refine ⟨by kernel_rfl, ?_⟩
    exact pn_back (i + 1) (by first | omega | (dsimp only; omega)) (by omega) (sl 2 rfl (sl 3 rfl (sl 5 rfl sn))) (el 10 rfl (el 11 rfl en))
  · refine tri_exit ?_
    repeat (first | refine pn_then ?_ | refine pn_oth (by decide) ?_)
    refine pn_ex ?_
    refine nx sn (el 10 rfl (el 11 rfl en)) ?_
    refine tri_seq ?_
    refine tri_reg mixed hcx ?_ _ _
    refine asg rfl ?_
    refine ⟨by kernel_rfl, ?_⟩
    refine nx (sl 4 rfl sn) (el 10 rfl (el 11 rfl en)) ?_
    refine tri_ret ?_
    repeat (first | refine pn_thenr ?_ | refine pn_blkr ?_)
    exact ret1 hcx rfl (rv_tmp rfl) (.refl _) en

theorem fdiv_is {a b x : Int} (hb : 0 < b) (h1 : b * x ≤ a) (h2 : a < b * x + b) : Int.fdiv a b = x := by
  rw [Int.fdiv_eq_ediv_of_nonneg _ (by omega)]
  exact ediv_is hb h1 h2
/-- The quotient of sizes, and what is left: the number's sign put back. -/
theorem quo_abs {a b : Int} (hb : 0 < b) : (¬ a < 0 → intv false (a.natAbs / b.natAbs) = Int.fdiv a b ∧ 0 ≤ a - intv false (a.natAbs / b.natAbs) * b) ∧
    (a < 0 → a - intv true (a.natAbs / b.natAbs) * b ≤ 0 ∧ (a - intv true (a.natAbs / b.natAbs) * b = 0 → intv true (a.natAbs / b.natAbs) = Int.fdiv a b) ∧ (¬ a - intv true (a.natAbs / b.natAbs) * b = 0 → intv true (a.natAbs / b.natAbs) - 1 = Int.fdiv a b)) := by
  have hN : 0 < b.natAbs := by omega
  have e := Nat.div_add_mod a.natAbs b.natAbs
  have hm := Nat.mod_lt a.natAbs hN
  have hbe : ((b.natAbs : Nat) : Int) = b := by omega
  have ee : b * ((a.natAbs / b.natAbs : Nat) : Int) + ((a.natAbs % b.natAbs : Nat) : Int) = (a.natAbs : Int) := by
    have := congrArg (fun x : Nat => (x : Int)) e
    simp only [Int.natCast_add, Int.natCast_mul] at this
    rwa [hbe] at this
  unfold intv
  simp only [Bool.false_eq_true, if_false, if_true]
  have hm2 : ((a.natAbs % b.natAbs : Nat) : Int) < b := by omega
  generalize ((a.natAbs / b.natAbs : Nat) : Int) = q at *
  generalize hte : ((a.natAbs % b.natAbs : Nat) : Int) = t at *
  have ht0 : 0 ≤ t := by omega
  have c1 : q * b = b * q := Int.mul_comm _ _
  have c2 : -q * b = -(b * q) := by rw [Int.neg_mul, c1]
  have c3 : b * -q = -(b * q) := Int.mul_neg _ _
  have c4 : b * (-q - 1) = -(b * q) - b := by rw [Int.mul_sub, c3, Int.mul_one]
  rw [c1, c2]
  refine ⟨fun h => ⟨(fdiv_is hb (by omega) (by omega)).symm, by omega⟩, fun h => ⟨by omega, fun h2 => (fdiv_is hb (by rw [c3]; omega) (by rw [c3]; omega)).symm, fun h2 => (fdiv_is hb (by rw [c4]; omega) (by rw [c4]; omega)).symm⟩⟩
theorem sg_nz {r : Int} : (r = 0 → sg r = 0) ∧ (r < 0 → sg r = -1) ∧ (0 < r → sg r = 1) := ⟨fun h => by rw [h]; exact sg_zero, fun h => sg_neg h, fun h => sg_pos h⟩
theorem dig_le {N k : Nat} (h : lim N ≤ k) : (T.l cU (dig N)).le (T.L N k) := l_L (dig_lim _) (dig_val _) h
theorem r01_DivD {M N k l : Nat} (hN0 : 0 < N) (hk : k ≤ 68719476736) (hl : l ≤ 68719476736) (h1 : lim M ≤ k) (h2 : lim N ≤ l) : Fn Tryz.prog 168 [T.l cU (dig M), T.l cU (dig N)] [] [] [] (T.tup [T.l cU (dig (M / N)), T.l cU (dig (M % N)), T.c (.int .i64 0)]) := fn_le (r01_Div hN0 (by omega) (by omega) h2) ⟨dig_le h1, dig_le h2, trivial⟩
theorem r02_madeD {s : Bool} {N k : Nat} (hk : k ≤ 68719476736) (h : lim N ≤ k) : Fn Tryz.prog 110 [T.c (.bool s), T.l cU (dig N)] [] [] [] (T.Z (intv s N) k) := fn_le (r02_made (by omega)) ⟨.refl _, dig_le h, trivial⟩
theorem lim_quo {M N k : Nat} (h : lim M ≤ k) : lim (M / N) ≤ k := Nat.le_trans (lim_mono (Nat.div_le_self _ _)) h

theorem r02_Floor {a b : Int} {k l : Nat} (hb : 0 < b) (hk : k ≤ 68719476736) (hl : l ≤ 68719476736) : Fn Tryz.prog 156 [T.Z a k, T.Z b l] [] [] [] (T.tup [T.Z (Int.fdiv a b) (k + 8), T.Z (a - Int.fdiv a b * b) (3 * k + 3 * l + 16)]) := by
  refine fn_of Tryz.func156 rfl (by show 2 ≤ 50; decide) fun cx hcx => ?_
  refine tri_sub (sl 0 rfl (sl 1 rfl sn)) en ?_
  refine tri_z 0 rfl fun hza => ?_
  refine tri_z 1 rfl fun hzb => ?_
  have hzb2 : zl b ≤ l := hzb
  have hza2 : zl a ≤ k := hza
  have hqa := quo_abs (a := a) hb
  have hsb : sg b = 1 := sg_pos hb
  refine tri_seq ?_
  refine tri_reg mixed hcx ?_ _ _
  refine bxs 10 rfl ?_
  refine bxs 11 rfl ?_
  refine nw 12 zeZ ?_
  refine nw 13 zeZ ?_
  refine ⟨by kernel_rfl, ?_⟩
  refine nx (sl 2 rfl (sl 3 rfl (sl 4 rfl (sl 5 rfl sn)))) (el 10 rfl (el 11 rfl (el 12 rfl (el 13 rfl en)))) ?_
  refine tri_seq ?_
  refine tri_reg mixed hcx ?_ _ _
  refine fa rfl fMag 1 ?_
  refine ld rfl rfl tyLs rfl ?_
  refine fa rfl fMag 1 ?_
  refine ld rfl rfl tyLs rfl ?_
  refine ca rfl (h := r01_DivD (M := a.natAbs) (N := b.natAbs) (k := k) (l := l) (by omega) (by omega) (by omega) hza hzb) (hn := ?_)
  refine mv rfl ?_
  refine ex rfl rfl ?_
  refine ex rfl rfl ?_
  refine ex rfl rfl ?_
  refine asg rfl ?_
  refine asg rfl ?_
  refine asg rfl ?_
  refine ⟨by kernel_rfl, ?_⟩
  refine nx (sl 2 rfl (sl 3 rfl (sl 4 rfl (sl 5 rfl (sl 6 rfl sn))))) (el 10 rfl (el 11 rfl (el 12 rfl (el 13 rfl en)))) ?_
  refine tri_seq ?_
  by_cases ha : a < 0
  · obtain ⟨hr1, hr2, hr3⟩ := hqa.2 ha
    refine tri_reg mixed hcx ?_ _ _
    refine fa rfl fNeg 0 ?_
    refine ld rfl rfl tyB rfl ?_
    refine fa rfl fNeg 0 ?_
    refine ld rfl rfl tyB rfl ?_
    refine neb (q := true) rfl rfl (by rw [decide_eq_true ha, decide_eq_false (by omega)]; rfl) ?_
    refine mv rfl ?_
    refine ca rfl (h := r02_madeD (s := true) (N := (a.natAbs / b.natAbs)) (k := k) (by omega) (lim_quo hza)) (hn := ?_)
    refine nw 217 zeZ ?_
    refine st rfl rfl rfl tyZ rfl ?_
    refine ⟨by kernel_rfl, ?_⟩
    refine nx (sl 2 rfl (sl 3 rfl (sl 4 rfl (sl 5 rfl (sl 9 rfl sn))))) (el 10 rfl (el 11 rfl (el 12 rfl (el 13 rfl (el 217 rfl en))))) ?_
    refine tri_seq ?_
    refine tri_reg mixed hcx ?_ _ _
    refine ld rfl rfl tyZ rfl ?_
    refine ld rfl rfl tyZ rfl ?_
    refine ld rfl rfl tyZ rfl ?_
    refine ca rfl (h := r02_Mul (by omega) (by omega)) (hn := ?_)
    refine ca rfl (h := r02_Sub (by omega) (by omega)) (hn := ?_)
    refine nw 315 zeZ ?_
    refine st rfl rfl rfl tyZ rfl ?_
    refine ⟨by kernel_rfl, ?_⟩
    refine nx (sl 3 rfl (sl 4 rfl (sl 5 rfl (sl 9 rfl (sl 10 rfl sn))))) (el 10 rfl (el 11 rfl (el 12 rfl (el 13 rfl (el 217 rfl (el 315 rfl en)))))) ?_
    refine tri_seq ?_
    refine tri_seq ?_
    by_cases hr : a - intv true (a.natAbs / b.natAbs) * b = 0
    · have hsr := sg_nz.1 hr
      refine tri_reg mixed hcx ?_ _ _
      refine ld rfl rfl tyZ rfl ?_
      refine ca rfl (h := r02_Sign (by omega)) (hn := ?_)
      refine cne rfl rfl (decide_eq_false (by omega)) ?_
      refine mv rfl ?_
      refine j_off rfl rfl rfl rfl ?_
      refine j_off rfl rfl rfl rfl ?_
      refine j_off rfl rfl rfl rfl ?_
      refine j_off rfl rfl rfl rfl ?_
      refine j_off rfl rfl rfl rfl ?_
      refine pk rfl rfl ?_
      refine ⟨by kernel_rfl, ?_⟩
      refine nx (sl 3 rfl (sl 4 rfl (sl 5 rfl (sl 9 rfl (sl 10 rfl (sl 41 rfl sn)))))) (el 10 rfl (el 11 rfl (el 12 rfl (el 13 rfl (el 217 rfl (el 315 rfl en)))))) ?_
      refine tri_false rfl rfl ?_
      refine tri_skip ?_
      refine nx (sl 4 rfl (sl 5 rfl (sl 9 rfl (sl 10 rfl sn)))) (el 10 rfl (el 11 rfl (el 12 rfl (el 13 rfl (el 217 rfl (el 315 rfl en)))))) ?_
      refine tri_seq ?_
      refine tri_reg mixed hcx ?_ _ _
      refine ld rfl rfl tyZ rfl ?_
      refine ld rfl rfl tyZ rfl ?_
      refine st rfl rfl rfl tyZ rfl ?_
      refine st rfl rfl rfl tyZ rfl ?_
      refine ⟨by kernel_rfl, ?_⟩
      refine nx (sl 4 rfl (sl 5 rfl sn)) (el 10 rfl (el 11 rfl (el 12 rfl (el 13 rfl (el 217 rfl (el 315 rfl en)))))) ?_
      refine tri_ret ?_
      repeat (first | refine pn_thenr ?_ | refine pn_blkr ?_)
      exact ret2 hcx rfl (rv_cell (c' := cx) (n := 0) rfl rfl tyZ rfl) (rv_cell (c' := cx) (n := 0) rfl rfl tyZ rfl) (tup_le ⟨z_eqz (hr2 hr) (by omega), z_eqz (by rw [← hr2 hr]) (by omega), trivial⟩) en
    · have hsr := (sg_nz (r := a - intv true (a.natAbs / b.natAbs) * b)).2.1 (by omega)
      refine tri_reg mixed hcx ?_ _ _
      refine ld rfl rfl tyZ rfl ?_
      refine ca rfl (h := r02_Sign (by omega)) (hn := ?_)
      refine cne rfl rfl (decide_eq_true (by omega)) ?_
      refine mv rfl ?_
      refine ld rfl rfl tyZ rfl ?_ (hg := gd1)
      refine ca rfl (h := r02_Sign (by omega)) (hn := ?_) (hg := gd1)
      refine ld rfl rfl tyZ rfl ?_ (hg := gd1)
      refine ca rfl (h := r02_Sign (by omega)) (hn := ?_) (hg := gd1)
      refine cne rfl rfl (decide_eq_true (by omega)) ?_ (hg := gd1)
      refine pk rfl rfl ?_
      refine ⟨by kernel_rfl, ?_⟩
      refine nx (sl 3 rfl (sl 4 rfl (sl 5 rfl (sl 9 rfl (sl 10 rfl (sl 41 rfl sn)))))) (el 10 rfl (el 11 rfl (el 12 rfl (el 13 rfl (el 217 rfl (el 315 rfl en)))))) ?_
      refine tri_true rfl rfl ?_
      refine tri_seq ?_
      refine tri_reg mixed hcx ?_ _ _
      refine ld rfl rfl tyZ rfl ?_
      refine ca rfl (h := r02_Of (by omega) (by omega)) (hn := ?_)
      refine ca rfl (h := r02_Sub (by omega) (by omega)) (hn := ?_)
      refine st rfl rfl rfl tyZ rfl ?_
      refine ⟨by kernel_rfl, ?_⟩
      refine nx (sl 3 rfl (sl 4 rfl (sl 5 rfl (sl 9 rfl (sl 10 rfl sn))))) (el 10 rfl (el 11 rfl (el 12 rfl (el 13 rfl (el 217 rfl (el 315 rfl en)))))) ?_
      refine tri_reg mixed hcx ?_ _ _
      refine ld rfl rfl tyZ rfl ?_
      refine ld rfl rfl tyZ rfl ?_
      refine ca rfl (h := r02_Add (by omega) (by omega)) (hn := ?_)
      refine st rfl rfl rfl tyZ rfl ?_
      refine ⟨by kernel_rfl, ?_⟩
      refine nx (sl 4 rfl (sl 5 rfl (sl 9 rfl (sl 10 rfl sn)))) (el 10 rfl (el 11 rfl (el 12 rfl (el 13 rfl (el 217 rfl (el 315 rfl en)))))) ?_
      refine tri_seq ?_
      refine tri_reg mixed hcx ?_ _ _
      refine ld rfl rfl tyZ rfl ?_
      refine ld rfl rfl tyZ rfl ?_
      refine st rfl rfl rfl tyZ rfl ?_
      refine st rfl rfl rfl tyZ rfl ?_
      refine ⟨by kernel_rfl, ?_⟩
      refine nx (sl 4 rfl (sl 5 rfl sn)) (el 10 rfl (el 11 rfl (el 12 rfl (el 13 rfl (el 217 rfl (el 315 rfl en)))))) ?_
      refine tri_ret ?_
      repeat (first | refine pn_thenr ?_ | refine pn_blkr ?_)
      exact ret2 hcx rfl (rv_cell (c' := cx) (n := 0) rfl rfl tyZ rfl) (rv_cell (c' := cx) (n := 0) rfl rfl tyZ rfl) (tup_le ⟨z_eqz (hr3 hr) (by omega), z_eqz (by rw [← hr3 hr, Int.sub_mul]; omega) (by omega), trivial⟩) en
  · obtain ⟨hr1, hr2⟩ := hqa.1 ha
    refine tri_reg mixed hcx ?_ _ _
    refine fa rfl fNeg 0 ?_
    refine ld rfl rfl tyB rfl ?_
    refine fa rfl fNeg 0 ?_
    refine ld rfl rfl tyB rfl ?_
    refine neb (q := false) rfl rfl (by rw [decide_eq_false ha, decide_eq_false (by omega)]; rfl) ?_
    refine mv rfl ?_
    refine ca rfl (h := r02_madeD (s := false) (N := (a.natAbs / b.natAbs)) (k := k) (by omega) (lim_quo hza)) (hn := ?_)
    refine nw 217 zeZ ?_
    refine st rfl rfl rfl tyZ rfl ?_
    refine ⟨by kernel_rfl, ?_⟩
    refine nx (sl 2 rfl (sl 3 rfl (sl 4 rfl (sl 5 rfl (sl 9 rfl sn))))) (el 10 rfl (el 11 rfl (el 12 rfl (el 13 rfl (el 217 rfl en))))) ?_
    refine tri_seq ?_
    refine tri_reg mixed hcx ?_ _ _
    refine ld rfl rfl tyZ rfl ?_
    refine ld rfl rfl tyZ rfl ?_
    refine ld rfl rfl tyZ rfl ?_
    refine ca rfl (h := r02_Mul (by omega) (by omega)) (hn := ?_)
    refine ca rfl (h := r02_Sub (by omega) (by omega)) (hn := ?_)
    refine nw 315 zeZ ?_
    refine st rfl rfl rfl tyZ rfl ?_
    refine ⟨by kernel_rfl, ?_⟩
    refine nx (sl 3 rfl (sl 4 rfl (sl 5 rfl (sl 9 rfl (sl 10 rfl sn))))) (el 10 rfl (el 11 rfl (el 12 rfl (el 13 rfl (el 217 rfl (el 315 rfl en)))))) ?_
    refine tri_seq ?_
    refine tri_seq ?_
    by_cases hr : a - intv false (a.natAbs / b.natAbs) * b = 0
    · have hsr := sg_nz.1 hr
      refine tri_reg mixed hcx ?_ _ _
      refine ld rfl rfl tyZ rfl ?_
      refine ca rfl (h := r02_Sign (by omega)) (hn := ?_)
      refine cne rfl rfl (decide_eq_false (by omega)) ?_
      refine mv rfl ?_
      refine j_off rfl rfl rfl rfl ?_
      refine j_off rfl rfl rfl rfl ?_
      refine j_off rfl rfl rfl rfl ?_
      refine j_off rfl rfl rfl rfl ?_
      refine j_off rfl rfl rfl rfl ?_
      refine pk rfl rfl ?_
      refine ⟨by kernel_rfl, ?_⟩
      refine nx (sl 3 rfl (sl 4 rfl (sl 5 rfl (sl 9 rfl (sl 10 rfl (sl 41 rfl sn)))))) (el 10 rfl (el 11 rfl (el 12 rfl (el 13 rfl (el 217 rfl (el 315 rfl en)))))) ?_
      refine tri_false rfl rfl ?_
      refine tri_skip ?_
      refine nx (sl 4 rfl (sl 5 rfl (sl 9 rfl (sl 10 rfl sn)))) (el 10 rfl (el 11 rfl (el 12 rfl (el 13 rfl (el 217 rfl (el 315 rfl en)))))) ?_
      refine tri_seq ?_
      refine tri_reg mixed hcx ?_ _ _
      refine ld rfl rfl tyZ rfl ?_
      refine ld rfl rfl tyZ rfl ?_
      refine st rfl rfl rfl tyZ rfl ?_
      refine st rfl rfl rfl tyZ rfl ?_
      refine ⟨by kernel_rfl, ?_⟩
      refine nx (sl 4 rfl (sl 5 rfl sn)) (el 10 rfl (el 11 rfl (el 12 rfl (el 13 rfl (el 217 rfl (el 315 rfl en)))))) ?_
      refine tri_ret ?_
      repeat (first | refine pn_thenr ?_ | refine pn_blkr ?_)
      exact ret2 hcx rfl (rv_cell (c' := cx) (n := 0) rfl rfl tyZ rfl) (rv_cell (c' := cx) (n := 0) rfl rfl tyZ rfl) (tup_le ⟨z_eqz (hr1) (by omega), z_eqz (by rw [← hr1]) (by omega), trivial⟩) en
    · have hsr := (sg_nz (r := a - intv false (a.natAbs / b.natAbs) * b)).2.2 (by omega)
      refine tri_reg mixed hcx ?_ _ _
      refine ld rfl rfl tyZ rfl ?_
      refine ca rfl (h := r02_Sign (by omega)) (hn := ?_)
      refine cne rfl rfl (decide_eq_true (by omega)) ?_
      refine mv rfl ?_
      refine ld rfl rfl tyZ rfl ?_ (hg := gd1)
      refine ca rfl (h := r02_Sign (by omega)) (hn := ?_) (hg := gd1)
      refine ld rfl rfl tyZ rfl ?_ (hg := gd1)
      refine ca rfl (h := r02_Sign (by omega)) (hn := ?_) (hg := gd1)
      refine cne rfl rfl (decide_eq_false (by omega)) ?_ (hg := gd1)
      refine pk rfl rfl ?_
      refine ⟨by kernel_rfl, ?_⟩
      refine nx (sl 3 rfl (sl 4 rfl (sl 5 rfl (sl 9 rfl (sl 10 rfl (sl 41 rfl sn)))))) (el 10 rfl (el 11 rfl (el 12 rfl (el 13 rfl (el 217 rfl (el 315 rfl en)))))) ?_
      refine tri_false rfl rfl ?_
      refine tri_skip ?_
      refine nx (sl 4 rfl (sl 5 rfl (sl 9 rfl (sl 10 rfl sn)))) (el 10 rfl (el 11 rfl (el 12 rfl (el 13 rfl (el 217 rfl (el 315 rfl en)))))) ?_
      refine tri_seq ?_
      refine tri_reg mixed hcx ?_ _ _
      refine ld rfl rfl tyZ rfl ?_
      refine ld rfl rfl tyZ rfl ?_
      refine st rfl rfl rfl tyZ rfl ?_
      refine st rfl rfl rfl tyZ rfl ?_
      refine ⟨by kernel_rfl, ?_⟩
      refine nx (sl 4 rfl (sl 5 rfl sn)) (el 10 rfl (el 11 rfl (el 12 rfl (el 13 rfl (el 217 rfl (el 315 rfl en)))))) ?_
      refine tri_ret ?_
      repeat (first | refine pn_thenr ?_ | refine pn_blkr ?_)
      exact ret2 hcx rfl (rv_cell (c' := cx) (n := 0) rfl rfl tyZ rfl) (rv_cell (c' := cx) (n := 0) rfl rfl tyZ rfl) (tup_le ⟨z_eqz (hr1) (by omega), z_eqz (by rw [← hr1]) (by omega), trivial⟩) en

theorem r03_Floor {q : Rat} {k : Nat} (hk : k ≤ 68719476736) : Fn Tryz.prog 108 [T.Q q k] [] [] [] (T.Z (flo q) (k + 8)) := by
  refine fn_of Tryz.func108 rfl (by show 1 ≤ 14; decide) fun cx hcx => ?_
  refine tri_sub (sl 0 rfl sn) en ?_
  have hdn := den_p' q
  refine tri_seq ?_
  refine tri_reg mixed hcx ?_ _ _
  refine bxs 10 rfl ?_
  refine nw 11 zeZ ?_
  refine ⟨by kernel_rfl, ?_⟩
  refine nx (sl 1 rfl (sl 2 rfl sn)) (el 10 rfl (el 11 rfl en)) ?_
  refine tri_seq ?_
  refine tri_reg mixed hcx ?_ _ _
  refine fa rfl fNum 0 ?_
  refine ld rfl rfl tyZ rfl ?_
  refine fa rfl fDen 2 ?_
  refine ld rfl rfl tyZ rfl ?_
  refine ca rfl (h := r02_Floor (by omega) (by omega) (by omega)) (hn := ?_)
  refine mv rfl ?_
  refine ex rfl rfl ?_
  refine ex rfl rfl ?_
  refine nw 118 zeZ ?_
  refine nw 119 zeZ ?_
  refine st rfl rfl rfl tyZ rfl ?_
  refine st rfl rfl rfl tyZ rfl ?_
  refine ⟨by kernel_rfl, ?_⟩
  refine nx (sl 2 rfl (sl 3 rfl sn)) (el 10 rfl (el 11 rfl (el 118 rfl (el 119 rfl en)))) ?_
  refine tri_seq ?_
  refine tri_reg mixed hcx ?_ _ _
  refine ld rfl rfl tyZ rfl ?_
  refine st rfl rfl rfl tyZ rfl ?_
  refine ⟨by kernel_rfl, ?_⟩
  refine nx (sl 2 rfl sn) (el 10 rfl (el 11 rfl (el 118 rfl (el 119 rfl en)))) ?_
  refine tri_ret ?_
  repeat (first | refine pn_thenr ?_ | refine pn_blkr ?_)
  exact ret1 hcx rfl (rv_cell (c' := cx) (n := 0) rfl rfl tyZ rfl) (.refl _) en

theorem half_le : (T.st [T.Z 1 2, T.Z 2 2]).le (T.Q (1 / 2) 2) := st_le ⟨z_eqz (by decide +kernel) (Nat.le_refl _), z_eqz (by decide +kernel) (Nat.le_refl _), trivial⟩

theorem r03_Half  : Fn Tryz.prog 151 [] [] [] [] (T.Q (1 / 2) 2) := by
  refine fn_of Tryz.func151 rfl (by show 0 ≤ 4; decide) fun cx hcx => ?_
  refine tri_sub sn en ?_
  refine tri_seq ?_
  refine tri_reg mixed hcx ?_ _ _
  refine nw 10 zeQ ?_
  refine ⟨by kernel_rfl, ?_⟩
  refine nx (sl 0 rfl sn) (el 10 rfl en) ?_
  refine tri_seq ?_
  refine tri_reg mixed hcx ?_ _ _
  refine ca rfl (h := r03_one) (hn := ?_)
  refine ca rfl (h := r02_Of (by omega) (by omega)) (hn := ?_)
  refine bu stQ rfl ?_
  refine st rfl rfl rfl tyQ rfl ?_
  refine ⟨by kernel_rfl, ?_⟩
  refine nx (sl 0 rfl sn) (el 10 rfl en) ?_
  refine tri_ret ?_
  repeat (first | refine pn_thenr ?_ | refine pn_blkr ?_)
  exact ret1 hcx rfl (rv_cell (c' := cx) (n := 0) rfl rfl tyQ rfl) half_le en

theorem r3v_Near {c : Rat} {k : Nat} (hk : k ≤ 1073741824) : Fn Tryz.prog 102 [T.V c k] [] [] [] (T.Z (nea c) (k + 64)) := by
  refine fn_of Tryz.func102 rfl (by show 1 ≤ 7; decide) fun cx hcx => ?_
  refine tri_sub (sl 0 rfl sn) en ?_
  refine tri_seq ?_
  refine tri_reg mixed hcx ?_ _ _
  refine bx 10 rfl ?_
  refine nw 11 zeZ ?_
  refine ⟨by kernel_rfl, ?_⟩
  refine nx (sl 1 rfl (sl 2 rfl sn)) (el 10 rfl (el 11 rfl en)) ?_
  refine tri_seq ?_
  refine tri_reg mixed hcx ?_ _ _
  refine ld rfl rfl tyQ rfl ?_
  refine ca rfl (h := r03_Half) (hn := ?_)
  refine cb rfl (h := r3v_Add (by omega) (by omega)) (hn := ?_)
  refine ca rfl (h := r03_Floor (by omega)) (hn := ?_)
  refine st rfl rfl rfl tyZ rfl ?_
  refine ⟨by kernel_rfl, ?_⟩
  refine nx (sl 2 rfl sn) (el 10 rfl (el 11 rfl en)) ?_
  refine tri_ret ?_
  repeat (first | refine pn_thenr ?_ | refine pn_blkr ?_)
  exact ret1 hcx rfl (rv_cell (c' := cx) (n := 0) rfl rfl tyZ rfl) (z_eqz rfl (by omega)) en

theorem sgq_gt {x y : Rat} (h : y < x) : 0 < sg (x - y).num := by
  have h1 : ¬ x - y < 0 := by grind
  have h2 : x - y ≠ 0 := by grind
  have h3 : ¬ (x - y).num < 0 := fun h => h1 (num_neg.2 h)
  have h4 : (x - y).num ≠ 0 := fun h => h2 (Rat.num_eq_zero.1 h)
  rw [sg_pos (by omega)]
  decide
theorem three (x y : Rat) : x < y ∨ x = y ∨ y < x := by grind

theorem r11_Nth {a b : Int} {n k : Nat} (hb : 0 < b) (hk : k ≤ 1000000000) (hn : n ≤ 1073741824) : Fn Tryz.prog 72 [T.Qi a b k, T.c (.int .i64 (n : Int))] [] [] [] (T.Z (nth ((a : Rat) / (b : Rat)) n) (k + 128)) := by
  refine fn_of Tryz.func72 rfl (by show 2 ≤ 34; decide) fun cx hcx => ?_
  refine tri_sub (sl 0 rfl (sl 1 rfl sn)) en ?_
  have hnc := nth_cases ((a : Rat) / (b : Rat)) n
  refine tri_seq ?_
  refine tri_reg mixed hcx ?_ _ _
  refine bxs 10 rfl ?_
  refine nw 11 zeZ ?_
  refine ⟨by kernel_rfl, ?_⟩
  refine nx (sl 1 rfl (sl 2 rfl (sl 4 rfl sn))) (el 10 rfl (el 11 rfl en)) ?_
  refine tri_seq ?_
  refine tri_reg mixed hcx ?_ _ _
  refine ld rfl rfl tyQ rfl ?_
  refine cb rfl (h := r3v_Near (by omega)) (hn := ?_)
  refine nw 112 zeZ ?_
  refine st rfl rfl rfl tyZ rfl ?_
  refine ⟨by kernel_rfl, ?_⟩
  refine nx (sl 1 rfl (sl 2 rfl (sl 4 rfl (sl 5 rfl sn)))) (el 10 rfl (el 11 rfl (el 112 rfl en))) ?_
  refine tri_seq ?_
  rcases three (((nea ((a : Rat) / (b : Rat)) : Int) : Rat)) ((a : Rat) / (b : Rat)) with hd | hd | hd
  · have hs1 := sgq_lt hd
    have hle : (((nea ((a : Rat) / (b : Rat)) : Int) : Rat)) ≤ ((a : Rat) / (b : Rat)) := Rat.le_of_lt hd
    refine tri_reg mixed hcx ?_ _ _
    refine ld rfl rfl tyZ rfl ?_
    refine ca rfl (h := r03_Of (by omega)) (hn := ?_)
    refine ld rfl rfl tyQ rfl ?_
    refine cb rfl (h := r3v_Cmp (by omega) (by omega)) (hn := ?_)
    refine clt rfl rfl (decide_eq_true (by omega)) ?_
    refine asg rfl ?_
    refine ⟨by kernel_rfl, ?_⟩
    refine nx (sl 1 rfl (sl 2 rfl (sl 4 rfl (sl 5 rfl (sl 6 rfl sn))))) (el 10 rfl (el 11 rfl (el 112 rfl en))) ?_
    refine tri_seq ?_
    refine tri_reg mixed hcx ?_ _ _
    refine mv rfl ?_
    refine ad (((n + 1 : Nat) : Int)) rfl rfl rfl (by omega) ?_
    refine qo ((((n + 1) / 2 : Nat) : Int)) rfl rfl rfl (by omega) ?_
    refine asg rfl ?_
    refine ⟨by kernel_rfl, ?_⟩
    refine nx (sl 1 rfl (sl 2 rfl (sl 4 rfl (sl 5 rfl (sl 6 rfl (sl 7 rfl sn)))))) (el 10 rfl (el 11 rfl (el 112 rfl en))) ?_
    refine tri_seq ?_
    refine tri_seq ?_
    refine tri_reg mixed hcx ?_ _ _
    refine ld rfl rfl tyZ rfl ?_
    refine ca rfl (h := r03_Of (by omega)) (hn := ?_)
    refine ld rfl rfl tyQ rfl ?_
    refine cb rfl (h := r3v_Cmp (by omega) (by omega)) (hn := ?_)
    refine ceq rfl rfl (decide_eq_false (by omega)) ?_
    refine ⟨by kernel_rfl, ?_⟩
    refine nx (sl 1 rfl (sl 4 rfl (sl 5 rfl (sl 6 rfl (sl 7 rfl (sl 22 rfl sn)))))) (el 10 rfl (el 11 rfl (el 112 rfl en))) ?_
    refine tri_false rfl rfl ?_
    refine tri_skip ?_
    refine nx (sl 1 rfl (sl 4 rfl (sl 5 rfl (sl 6 rfl (sl 7 rfl sn))))) (el 10 rfl (el 11 rfl (el 112 rfl en))) ?_
    refine tri_seq ?_
    refine tri_seq ?_
    by_cases h2 : n % 2 = 1
    · refine tri_reg mixed hcx ?_ _ _
      refine mv rfl ?_
      refine re (((n % 2 : Nat) : Int)) rfl rfl (by omega) ?_
      refine ceq rfl rfl (decide_eq_true (by omega)) ?_
      refine mv rfl ?_
      refine neb rfl rfl rfl ?_
      refine ⟨by kernel_rfl, ?_⟩
      refine nx (sl 4 rfl (sl 5 rfl (sl 7 rfl (sl 27 rfl sn)))) (el 10 rfl (el 11 rfl (el 112 rfl en))) ?_
      refine tri_false rfl rfl ?_
      refine tri_skip ?_
      refine nx (sl 4 rfl (sl 5 rfl (sl 7 rfl sn))) (el 10 rfl (el 11 rfl (el 112 rfl en))) ?_
      refine tri_seq ?_
      refine tri_reg mixed hcx ?_ _ _
      refine ld rfl rfl tyZ rfl ?_
      refine mv rfl ?_
      refine ca rfl (h := r02_Of (by omega) (by omega)) (hn := ?_)
      refine ca rfl (h := r02_Add (by omega) (by omega)) (hn := ?_)
      refine st rfl rfl rfl tyZ rfl ?_
      refine ⟨by kernel_rfl, ?_⟩
      refine nx (sl 4 rfl sn) (el 10 rfl (el 11 rfl (el 112 rfl en))) ?_
      refine tri_ret ?_
      repeat (first | refine pn_thenr ?_ | refine pn_blkr ?_)
      exact ret1 hcx rfl (rv_cell (c' := cx) (n := 0) rfl rfl tyZ rfl) (z_eqz (hnc.1 hle h2).symm (by omega)) en
    · refine tri_reg mixed hcx ?_ _ _
      refine mv rfl ?_
      refine re (((n % 2 : Nat) : Int)) rfl rfl (by omega) ?_
      refine ceq rfl rfl (decide_eq_false (by omega)) ?_
      refine mv rfl ?_
      refine neb rfl rfl rfl ?_
      refine ⟨by kernel_rfl, ?_⟩
      refine nx (sl 4 rfl (sl 5 rfl (sl 7 rfl (sl 27 rfl sn)))) (el 10 rfl (el 11 rfl (el 112 rfl en))) ?_
      refine tri_true rfl rfl ?_
      refine tri_reg mixed hcx ?_ _ _
      refine mv rfl ?_
      refine ng ((-(((n + 1) / 2 : Nat) : Int))) rfl rfl (by omega) ?_
      refine asg rfl ?_
      refine ⟨by kernel_rfl, ?_⟩
      refine nx (sl 4 rfl (sl 5 rfl (sl 7 rfl sn))) (el 10 rfl (el 11 rfl (el 112 rfl en))) ?_
      refine tri_seq ?_
      refine tri_reg mixed hcx ?_ _ _
      refine ld rfl rfl tyZ rfl ?_
      refine mv rfl ?_
      refine ca rfl (h := r02_Of (by omega) (by omega)) (hn := ?_)
      refine ca rfl (h := r02_Add (by omega) (by omega)) (hn := ?_)
      refine st rfl rfl rfl tyZ rfl ?_
      refine ⟨by kernel_rfl, ?_⟩
      refine nx (sl 4 rfl sn) (el 10 rfl (el 11 rfl (el 112 rfl en))) ?_
      refine tri_ret ?_
      repeat (first | refine pn_thenr ?_ | refine pn_blkr ?_)
      exact ret1 hcx rfl (rv_cell (c' := cx) (n := 0) rfl rfl tyZ rfl) (z_eqz (hnc.2.1 hle h2).symm (by omega)) en
  · have hs1 := sgq_eq hd
    have hle : (((nea ((a : Rat) / (b : Rat)) : Int) : Rat)) ≤ ((a : Rat) / (b : Rat)) := by rw [hd]; exact Rat.le_refl
    refine tri_reg mixed hcx ?_ _ _
    refine ld rfl rfl tyZ rfl ?_
    refine ca rfl (h := r03_Of (by omega)) (hn := ?_)
    refine ld rfl rfl tyQ rfl ?_
    refine cb rfl (h := r3v_Cmp (by omega) (by omega)) (hn := ?_)
    refine clt rfl rfl (decide_eq_false (by omega)) ?_
    refine asg rfl ?_
    refine ⟨by kernel_rfl, ?_⟩
    refine nx (sl 1 rfl (sl 2 rfl (sl 4 rfl (sl 5 rfl (sl 6 rfl sn))))) (el 10 rfl (el 11 rfl (el 112 rfl en))) ?_
    refine tri_seq ?_
    refine tri_reg mixed hcx ?_ _ _
    refine mv rfl ?_
    refine ad (((n + 1 : Nat) : Int)) rfl rfl rfl (by omega) ?_
    refine qo ((((n + 1) / 2 : Nat) : Int)) rfl rfl rfl (by omega) ?_
    refine asg rfl ?_
    refine ⟨by kernel_rfl, ?_⟩
    refine nx (sl 1 rfl (sl 2 rfl (sl 4 rfl (sl 5 rfl (sl 6 rfl (sl 7 rfl sn)))))) (el 10 rfl (el 11 rfl (el 112 rfl en))) ?_
    refine tri_seq ?_
    refine tri_seq ?_
    refine tri_reg mixed hcx ?_ _ _
    refine ld rfl rfl tyZ rfl ?_
    refine ca rfl (h := r03_Of (by omega)) (hn := ?_)
    refine ld rfl rfl tyQ rfl ?_
    refine cb rfl (h := r3v_Cmp (by omega) (by omega)) (hn := ?_)
    refine ceq rfl rfl (decide_eq_true (by omega)) ?_
    refine ⟨by kernel_rfl, ?_⟩
    refine nx (sl 1 rfl (sl 4 rfl (sl 5 rfl (sl 6 rfl (sl 7 rfl (sl 22 rfl sn)))))) (el 10 rfl (el 11 rfl (el 112 rfl en))) ?_
    refine tri_true rfl rfl ?_
    refine tri_reg mixed hcx ?_ _ _
    refine asg rfl ?_
    refine ⟨by kernel_rfl, ?_⟩
    refine nx (sl 1 rfl (sl 4 rfl (sl 5 rfl (sl 6 rfl (sl 7 rfl sn))))) (el 10 rfl (el 11 rfl (el 112 rfl en))) ?_
    refine tri_seq ?_
    refine tri_seq ?_
    by_cases h2 : n % 2 = 1
    · refine tri_reg mixed hcx ?_ _ _
      refine mv rfl ?_
      refine re (((n % 2 : Nat) : Int)) rfl rfl (by omega) ?_
      refine ceq rfl rfl (decide_eq_true (by omega)) ?_
      refine mv rfl ?_
      refine neb rfl rfl rfl ?_
      refine ⟨by kernel_rfl, ?_⟩
      refine nx (sl 4 rfl (sl 5 rfl (sl 7 rfl (sl 27 rfl sn)))) (el 10 rfl (el 11 rfl (el 112 rfl en))) ?_
      refine tri_false rfl rfl ?_
      refine tri_skip ?_
      refine nx (sl 4 rfl (sl 5 rfl (sl 7 rfl sn))) (el 10 rfl (el 11 rfl (el 112 rfl en))) ?_
      refine tri_seq ?_
      refine tri_reg mixed hcx ?_ _ _
      refine ld rfl rfl tyZ rfl ?_
      refine mv rfl ?_
      refine ca rfl (h := r02_Of (by omega) (by omega)) (hn := ?_)
      refine ca rfl (h := r02_Add (by omega) (by omega)) (hn := ?_)
      refine st rfl rfl rfl tyZ rfl ?_
      refine ⟨by kernel_rfl, ?_⟩
      refine nx (sl 4 rfl sn) (el 10 rfl (el 11 rfl (el 112 rfl en))) ?_
      refine tri_ret ?_
      repeat (first | refine pn_thenr ?_ | refine pn_blkr ?_)
      exact ret1 hcx rfl (rv_cell (c' := cx) (n := 0) rfl rfl tyZ rfl) (z_eqz (hnc.1 hle h2).symm (by omega)) en
    · refine tri_reg mixed hcx ?_ _ _
      refine mv rfl ?_
      refine re (((n % 2 : Nat) : Int)) rfl rfl (by omega) ?_
      refine ceq rfl rfl (decide_eq_false (by omega)) ?_
      refine mv rfl ?_
      refine neb rfl rfl rfl ?_
      refine ⟨by kernel_rfl, ?_⟩
      refine nx (sl 4 rfl (sl 5 rfl (sl 7 rfl (sl 27 rfl sn)))) (el 10 rfl (el 11 rfl (el 112 rfl en))) ?_
      refine tri_true rfl rfl ?_
      refine tri_reg mixed hcx ?_ _ _
      refine mv rfl ?_
      refine ng ((-(((n + 1) / 2 : Nat) : Int))) rfl rfl (by omega) ?_
      refine asg rfl ?_
      refine ⟨by kernel_rfl, ?_⟩
      refine nx (sl 4 rfl (sl 5 rfl (sl 7 rfl sn))) (el 10 rfl (el 11 rfl (el 112 rfl en))) ?_
      refine tri_seq ?_
      refine tri_reg mixed hcx ?_ _ _
      refine ld rfl rfl tyZ rfl ?_
      refine mv rfl ?_
      refine ca rfl (h := r02_Of (by omega) (by omega)) (hn := ?_)
      refine ca rfl (h := r02_Add (by omega) (by omega)) (hn := ?_)
      refine st rfl rfl rfl tyZ rfl ?_
      refine ⟨by kernel_rfl, ?_⟩
      refine nx (sl 4 rfl sn) (el 10 rfl (el 11 rfl (el 112 rfl en))) ?_
      refine tri_ret ?_
      repeat (first | refine pn_thenr ?_ | refine pn_blkr ?_)
      exact ret1 hcx rfl (rv_cell (c' := cx) (n := 0) rfl rfl tyZ rfl) (z_eqz (hnc.2.1 hle h2).symm (by omega)) en
  · have hs1 := sgq_gt hd
    have hle : ¬ (((nea ((a : Rat) / (b : Rat)) : Int) : Rat)) ≤ ((a : Rat) / (b : Rat)) := Rat.not_le.2 hd
    refine tri_reg mixed hcx ?_ _ _
    refine ld rfl rfl tyZ rfl ?_
    refine ca rfl (h := r03_Of (by omega)) (hn := ?_)
    refine ld rfl rfl tyQ rfl ?_
    refine cb rfl (h := r3v_Cmp (by omega) (by omega)) (hn := ?_)
    refine clt rfl rfl (decide_eq_false (by omega)) ?_
    refine asg rfl ?_
    refine ⟨by kernel_rfl, ?_⟩
    refine nx (sl 1 rfl (sl 2 rfl (sl 4 rfl (sl 5 rfl (sl 6 rfl sn))))) (el 10 rfl (el 11 rfl (el 112 rfl en))) ?_
    refine tri_seq ?_
    refine tri_reg mixed hcx ?_ _ _
    refine mv rfl ?_
    refine ad (((n + 1 : Nat) : Int)) rfl rfl rfl (by omega) ?_
    refine qo ((((n + 1) / 2 : Nat) : Int)) rfl rfl rfl (by omega) ?_
    refine asg rfl ?_
    refine ⟨by kernel_rfl, ?_⟩
    refine nx (sl 1 rfl (sl 2 rfl (sl 4 rfl (sl 5 rfl (sl 6 rfl (sl 7 rfl sn)))))) (el 10 rfl (el 11 rfl (el 112 rfl en))) ?_
    refine tri_seq ?_
    refine tri_seq ?_
    refine tri_reg mixed hcx ?_ _ _
    refine ld rfl rfl tyZ rfl ?_
    refine ca rfl (h := r03_Of (by omega)) (hn := ?_)
    refine ld rfl rfl tyQ rfl ?_
    refine cb rfl (h := r3v_Cmp (by omega) (by omega)) (hn := ?_)
    refine ceq rfl rfl (decide_eq_false (by omega)) ?_
    refine ⟨by kernel_rfl, ?_⟩
    refine nx (sl 1 rfl (sl 4 rfl (sl 5 rfl (sl 6 rfl (sl 7 rfl (sl 22 rfl sn)))))) (el 10 rfl (el 11 rfl (el 112 rfl en))) ?_
    refine tri_false rfl rfl ?_
    refine tri_skip ?_
    refine nx (sl 1 rfl (sl 4 rfl (sl 5 rfl (sl 6 rfl (sl 7 rfl sn))))) (el 10 rfl (el 11 rfl (el 112 rfl en))) ?_
    refine tri_seq ?_
    refine tri_seq ?_
    by_cases h2 : n % 2 = 1
    · refine tri_reg mixed hcx ?_ _ _
      refine mv rfl ?_
      refine re (((n % 2 : Nat) : Int)) rfl rfl (by omega) ?_
      refine ceq rfl rfl (decide_eq_true (by omega)) ?_
      refine mv rfl ?_
      refine neb rfl rfl rfl ?_
      refine ⟨by kernel_rfl, ?_⟩
      refine nx (sl 4 rfl (sl 5 rfl (sl 7 rfl (sl 27 rfl sn)))) (el 10 rfl (el 11 rfl (el 112 rfl en))) ?_
      refine tri_true rfl rfl ?_
      refine tri_reg mixed hcx ?_ _ _
      refine mv rfl ?_
      refine ng ((-(((n + 1) / 2 : Nat) : Int))) rfl rfl (by omega) ?_
      refine asg rfl ?_
      refine ⟨by kernel_rfl, ?_⟩
      refine nx (sl 4 rfl (sl 5 rfl (sl 7 rfl sn))) (el 10 rfl (el 11 rfl (el 112 rfl en))) ?_
      refine tri_seq ?_
      refine tri_reg mixed hcx ?_ _ _
      refine ld rfl rfl tyZ rfl ?_
      refine mv rfl ?_
      refine ca rfl (h := r02_Of (by omega) (by omega)) (hn := ?_)
      refine ca rfl (h := r02_Add (by omega) (by omega)) (hn := ?_)
      refine st rfl rfl rfl tyZ rfl ?_
      refine ⟨by kernel_rfl, ?_⟩
      refine nx (sl 4 rfl sn) (el 10 rfl (el 11 rfl (el 112 rfl en))) ?_
      refine tri_ret ?_
      repeat (first | refine pn_thenr ?_ | refine pn_blkr ?_)
      exact ret1 hcx rfl (rv_cell (c' := cx) (n := 0) rfl rfl tyZ rfl) (z_eqz (hnc.2.2.1 hle h2).symm (by omega)) en
    · refine tri_reg mixed hcx ?_ _ _
      refine mv rfl ?_
      refine re (((n % 2 : Nat) : Int)) rfl rfl (by omega) ?_
      refine ceq rfl rfl (decide_eq_false (by omega)) ?_
      refine mv rfl ?_
      refine neb rfl rfl rfl ?_
      refine ⟨by kernel_rfl, ?_⟩
      refine nx (sl 4 rfl (sl 5 rfl (sl 7 rfl (sl 27 rfl sn)))) (el 10 rfl (el 11 rfl (el 112 rfl en))) ?_
      refine tri_false rfl rfl ?_
      refine tri_skip ?_
      refine nx (sl 4 rfl (sl 5 rfl (sl 7 rfl sn))) (el 10 rfl (el 11 rfl (el 112 rfl en))) ?_
      refine tri_seq ?_
      refine tri_reg mixed hcx ?_ _ _
      refine ld rfl rfl tyZ rfl ?_
      refine mv rfl ?_
      refine ca rfl (h := r02_Of (by omega) (by omega)) (hn := ?_)
      refine ca rfl (h := r02_Add (by omega) (by omega)) (hn := ?_)
      refine st rfl rfl rfl tyZ rfl ?_
      refine ⟨by kernel_rfl, ?_⟩
      refine nx (sl 4 rfl sn) (el 10 rfl (el 11 rfl (el 112 rfl en))) ?_
      refine tri_ret ?_
      repeat (first | refine pn_thenr ?_ | refine pn_blkr ?_)
      exact ret1 hcx rfl (rv_cell (c' := cx) (n := 0) rfl rfl tyZ rfl) (z_eqz (hnc.2.2.2 hle h2).symm (by omega)) en

theorem r11_NthV {c : Rat} {n k : Nat} (hk : k ≤ 1000000000) (hn : n ≤ 1073741824) : Fn Tryz.prog 72 [T.V c k, T.c (.int .i64 (n : Int))] [] [] [] (T.Z (nth c n) (k + 128)) := fn_v [] (Bs := [T.c (.int .i64 (n : Int))]) fun p p1 p2 p3 p4 => fn_out (r11_Nth p1 hk hn) (z_eqz (by rw [p2]) (Nat.le_refl _))

-- left out

-- left out

end Go.Proofs.YtekghdfbhbhigaaGreat.V
/- Search trees: what is no tree, what is too long. -/
set_option linter.unusedVariables false
set_option linter.unusedSimpArgs false
set_option maxRecDepth 100000
namespace Go.Proofs.YtekghdfbhbhigaaGreat.V
open Go.RowKit Mt Nml
/-- A tree that may be. -/
def TrV (D : List Int) (L : List (List Int)) (ts : List (Int × Int)) (a b : Int) : Prop := GoodP D L ∧ L.length ≤ 12 ∧ (ts.length = 0 ∨ ts.length = L.length) ∧ (∀ i, i < ts.length → 0 < (ts.getD i (0, 0)).2) ∧ 0 < b ∧ 0 ≤ a
theorem least_bad {P : Nat → Prop} : ∀ {n : Nat}, (¬ ∀ i, i < n → P i) → ∃ w, w < n ∧ ¬ P w ∧ ∀ i, i < w → P i
  | 0, h => absurd (fun i hi => absurd hi (Nat.not_lt_zero _)) h
  | n + 1, h => by
    classical
    by_cases h1 : ∀ i, i < n → P i
    · refine ⟨n, Nat.lt_succ_self _, fun hp => h fun i hi => ?_, h1⟩
      rcases Nat.lt_or_eq_of_le (Nat.le_of_lt_succ hi) with h2 | h2
      · exact h1 i h2
      · rw [h2]; exact hp
    · obtain ⟨w, k1, k2, k3⟩ := least_bad h1
      exact ⟨w, by omega, k2, k3⟩

theorem t_Valid_c1 {D : List Int} {L : List (List Int)} {ts : List (Int × Int)} {a b : Int} {k : Nat} (hk : k ≤ 16777216) (hLl : L.length ≤ 1048576) (hDl : D.length ≤ 1048576) (htl : ts.length ≤ 1048576) (hn : 12 < L.length) : Fn Tryz.prog 79 [T.Tr D L ts a b k] [] [] [] (T.c (.int .i64 110)) := by
  refine fn_of Tryz.func79 rfl (by show 1 ≤ 61; decide) fun cx hcx => ?_
  refine tri_sub (sl 0 rfl sn) en ?_
  refine tri_seq ?_
  refine tri_reg mixed hcx ?_ _ _
  refine bxs 10 rfl ?_
  refine asg rfl ?_
  refine ⟨by kernel_rfl, ?_⟩
  refine nx (sl 1 rfl sn) (el 10 rfl en) ?_
  refine tri_seq ?_
  refine tri_reg mixed hcx ?_ _ _
  refine fa rfl fTrG 0 ?_
  refine fa rfl fL 1 ?_
  refine ld rfl rfl tyZss rfl ?_
  refine ln slZss rfl ?_
  refine asg rfl ?_
  refine ⟨by kernel_rfl, ?_⟩
  refine nx (sl 1 rfl (sl 3 rfl sn)) (el 10 rfl en) ?_
  refine tri_seq ?_
  refine tri_seq ?_
  refine tri_reg mixed hcx ?_ _ _
  refine mv rfl ?_
  refine cgt rfl rfl (decide_eq_true (by omega)) ?_
  refine mv rfl ?_
  refine j_off rfl rfl rfl rfl ?_
  refine j_off rfl rfl rfl rfl ?_
  refine j_off rfl rfl rfl rfl ?_
  refine j_off rfl rfl rfl rfl ?_
  refine j_off rfl rfl rfl rfl ?_
  refine j_ofu rfl rfl rfl ?_
  refine j_ofu rfl rfl rfl ?_
  refine j_ofu rfl rfl rfl ?_
  refine j_ofu rfl rfl rfl ?_
  refine j_ofu rfl rfl rfl ?_
  refine j_off rfl rfl rfl rfl ?_
  refine pk rfl rfl ?_
  refine mv rfl ?_
  refine j_off rfl rfl rfl rfl ?_
  refine j_off rfl rfl rfl rfl ?_
  refine j_off rfl rfl rfl rfl ?_
  refine j_off rfl rfl rfl rfl ?_
  refine j_off rfl rfl rfl rfl ?_
  refine pk rfl rfl ?_
  refine mv rfl ?_
  refine j_off rfl rfl rfl rfl ?_
  refine j_off rfl rfl rfl rfl ?_
  refine j_off rfl rfl rfl rfl ?_
  refine j_off rfl rfl rfl rfl ?_
  refine j_off rfl rfl rfl rfl ?_
  refine pk rfl rfl ?_
  refine ⟨by kernel_rfl, ?_⟩
  refine nx (sl 1 rfl (sl 40 rfl sn)) (el 10 rfl en) ?_
  refine tri_true rfl rfl ?_
  refine tri_seq ?_
  refine tri_reg mixed hcx ?_ _ _
  refine asg rfl ?_
  refine ⟨by kernel_rfl, ?_⟩
  refine nx (sl 2 rfl sn) (el 10 rfl en) ?_
  refine tri_ret ?_
  repeat (first | refine pn_thenr ?_ | refine pn_blkr ?_)
  exact ret1 hcx rfl (rv_tmp rfl) (.refl _) en

theorem t_Valid_c2 {D : List Int} {L : List (List Int)} {ts : List (Int × Int)} {a b : Int} {k : Nat} (hk : k ≤ 16777216) (hLl : L.length ≤ 1048576) (hDl : D.length ≤ 1048576) (htl : ts.length ≤ 1048576) (hn : L.length ≤ 12) (h1 : ts.length ≠ 0) (h2 : ts.length ≠ L.length) : Fn Tryz.prog 79 [T.Tr D L ts a b k] [] [] [] (T.c (.int .i64 110)) := by
  refine fn_of Tryz.func79 rfl (by show 1 ≤ 61; decide) fun cx hcx => ?_
  refine tri_sub (sl 0 rfl sn) en ?_
  refine tri_seq ?_
  refine tri_reg mixed hcx ?_ _ _
  refine bxs 10 rfl ?_
  refine asg rfl ?_
  refine ⟨by kernel_rfl, ?_⟩
  refine nx (sl 1 rfl sn) (el 10 rfl en) ?_
  refine tri_seq ?_
  refine tri_reg mixed hcx ?_ _ _
  refine fa rfl fTrG 0 ?_
  refine fa rfl fL 1 ?_
  refine ld rfl rfl tyZss rfl ?_
  refine ln slZss rfl ?_
  refine asg rfl ?_
  refine ⟨by kernel_rfl, ?_⟩
  refine nx (sl 1 rfl (sl 3 rfl sn)) (el 10 rfl en) ?_
  refine tri_seq ?_
  refine tri_seq ?_
  refine tri_reg mixed hcx ?_ _ _
  refine mv rfl ?_
  refine cgt rfl rfl (decide_eq_false (by omega)) ?_
  refine mv rfl ?_
  refine fa rfl fTrT 2 ?_ (hg := gd1)
  refine ld rfl rfl tyQs rfl ?_ (hg := gd1)
  refine ln slQs rfl ?_ (hg := gd1)
  refine cne rfl rfl (decide_eq_true (by omega)) ?_ (hg := gd1)
  refine mv rfl ?_ (hg := gd1)
  refine fa rfl fTrT 2 ?_ (hg := gd1)
  refine ld rfl rfl tyQs rfl ?_ (hg := gd1)
  refine ln slQs rfl ?_ (hg := gd1)
  refine mv rfl ?_ (hg := gd1)
  refine cne rfl rfl (decide_eq_true (by omega)) ?_ (hg := gd1)
  refine pk rfl rfl ?_ (hg := gd1)
  refine pk rfl rfl ?_
  refine mv rfl ?_
  refine j_off rfl rfl rfl rfl ?_
  refine j_off rfl rfl rfl rfl ?_
  refine j_off rfl rfl rfl rfl ?_
  refine j_off rfl rfl rfl rfl ?_
  refine j_off rfl rfl rfl rfl ?_
  refine pk rfl rfl ?_
  refine mv rfl ?_
  refine j_off rfl rfl rfl rfl ?_
  refine j_off rfl rfl rfl rfl ?_
  refine j_off rfl rfl rfl rfl ?_
  refine j_off rfl rfl rfl rfl ?_
  refine j_off rfl rfl rfl rfl ?_
  refine pk rfl rfl ?_
  refine ⟨by kernel_rfl, ?_⟩
  refine nx (sl 1 rfl (sl 40 rfl sn)) (el 10 rfl en) ?_
  refine tri_true rfl rfl ?_
  refine tri_seq ?_
  refine tri_reg mixed hcx ?_ _ _
  refine asg rfl ?_
  refine ⟨by kernel_rfl, ?_⟩
  refine nx (sl 2 rfl sn) (el 10 rfl en) ?_
  refine tri_ret ?_
  repeat (first | refine pn_thenr ?_ | refine pn_blkr ?_)
  exact ret1 hcx rfl (rv_tmp rfl) (.refl _) en

theorem t_Valid_c3 {D : List Int} {L : List (List Int)} {ts : List (Int × Int)} {a b : Int} {k : Nat} (hk : k ≤ 16777216) (hLl : L.length ≤ 1048576) (hDl : D.length ≤ 1048576) (htl : ts.length ≤ 1048576) (hn : L.length ≤ 12) (ht : ts.length = 0 ∨ ts.length = L.length) (hb : ¬ 0 < b) : Fn Tryz.prog 79 [T.Tr D L ts a b k] [] [] [] (T.c (.int .i64 110)) := by
  refine fn_of Tryz.func79 rfl (by show 1 ≤ 61; decide) fun cx hcx => ?_
  refine tri_sub (sl 0 rfl sn) en ?_
  have hsb : sg b ≤ 0 := by rcases Int.lt_trichotomy b 0 with h | h | h; rw [sg_neg h]; decide; rw [h, sg_zero]; omega; omega
  refine tri_seq ?_
  refine tri_reg mixed hcx ?_ _ _
  refine bxs 10 rfl ?_
  refine asg rfl ?_
  refine ⟨by kernel_rfl, ?_⟩
  refine nx (sl 1 rfl sn) (el 10 rfl en) ?_
  refine tri_seq ?_
  refine tri_reg mixed hcx ?_ _ _
  refine fa rfl fTrG 0 ?_
  refine fa rfl fL 1 ?_
  refine ld rfl rfl tyZss rfl ?_
  refine ln slZss rfl ?_
  refine asg rfl ?_
  refine ⟨by kernel_rfl, ?_⟩
  refine nx (sl 1 rfl (sl 3 rfl sn)) (el 10 rfl en) ?_
  refine tri_seq ?_
  refine tri_seq ?_
  by_cases htz : ts.length = 0
  · refine tri_reg mixed hcx ?_ _ _
    refine mv rfl ?_
    refine cgt rfl rfl (decide_eq_false (by omega)) ?_
    refine mv rfl ?_
    refine fa rfl fTrT 2 ?_ (hg := gd1)
    refine ld rfl rfl tyQs rfl ?_ (hg := gd1)
    refine ln slQs rfl ?_ (hg := gd1)
    refine cne rfl rfl (decide_eq_false (by omega)) ?_ (hg := gd1)
    refine mv rfl ?_ (hg := gd1)
    refine j_off rfl rfl rfl rfl ?_
    refine j_off rfl rfl rfl rfl ?_
    refine j_off rfl rfl rfl rfl ?_
    refine j_off rfl rfl rfl rfl ?_
    refine j_off rfl rfl rfl rfl ?_
    refine pk rfl rfl ?_ (hg := gd1)
    refine pk rfl rfl ?_
    refine mv rfl ?_
    refine fa rfl fTrR 3 ?_ (hg := gd1)
    refine fa rfl fDen 5 ?_ (hg := gd1)
    refine ld rfl rfl tyZ rfl ?_ (hg := gd1)
    refine ca rfl (h := zi_Sign (by omega)) (hn := ?_) (hg := gd1)
    refine cle rfl rfl (decide_eq_true (by omega)) ?_ (hg := gd1)
    refine pk rfl rfl ?_
    refine mv rfl ?_
    refine j_off rfl rfl rfl rfl ?_
    refine j_off rfl rfl rfl rfl ?_
    refine j_off rfl rfl rfl rfl ?_
    refine j_off rfl rfl rfl rfl ?_
    refine j_off rfl rfl rfl rfl ?_
    refine pk rfl rfl ?_
    refine ⟨by kernel_rfl, ?_⟩
    refine nx (sl 1 rfl (sl 40 rfl sn)) (el 10 rfl en) ?_
    refine tri_true rfl rfl ?_
    refine tri_seq ?_
    refine tri_reg mixed hcx ?_ _ _
    refine asg rfl ?_
    refine ⟨by kernel_rfl, ?_⟩
    refine nx (sl 2 rfl sn) (el 10 rfl en) ?_
    refine tri_ret ?_
    repeat (first | refine pn_thenr ?_ | refine pn_blkr ?_)
    exact ret1 hcx rfl (rv_tmp rfl) (.refl _) en
  · have htn : ts.length = L.length := by rcases ht with h | h <;> omega
    refine tri_reg mixed hcx ?_ _ _
    refine mv rfl ?_
    refine cgt rfl rfl (decide_eq_false (by omega)) ?_
    refine mv rfl ?_
    refine fa rfl fTrT 2 ?_ (hg := gd1)
    refine ld rfl rfl tyQs rfl ?_ (hg := gd1)
    refine ln slQs rfl ?_ (hg := gd1)
    refine cne rfl rfl (decide_eq_true (by omega)) ?_ (hg := gd1)
    refine mv rfl ?_ (hg := gd1)
    refine fa rfl fTrT 2 ?_ (hg := gd1)
    refine ld rfl rfl tyQs rfl ?_ (hg := gd1)
    refine ln slQs rfl ?_ (hg := gd1)
    refine mv rfl ?_ (hg := gd1)
    refine cne rfl rfl (decide_eq_false (by omega)) ?_ (hg := gd1)
    refine pk rfl rfl ?_ (hg := gd1)
    refine pk rfl rfl ?_
    refine mv rfl ?_
    refine fa rfl fTrR 3 ?_ (hg := gd1)
    refine fa rfl fDen 5 ?_ (hg := gd1)
    refine ld rfl rfl tyZ rfl ?_ (hg := gd1)
    refine ca rfl (h := zi_Sign (by omega)) (hn := ?_) (hg := gd1)
    refine cle rfl rfl (decide_eq_true (by omega)) ?_ (hg := gd1)
    refine pk rfl rfl ?_
    refine mv rfl ?_
    refine j_off rfl rfl rfl rfl ?_
    refine j_off rfl rfl rfl rfl ?_
    refine j_off rfl rfl rfl rfl ?_
    refine j_off rfl rfl rfl rfl ?_
    refine j_off rfl rfl rfl rfl ?_
    refine pk rfl rfl ?_
    refine ⟨by kernel_rfl, ?_⟩
    refine nx (sl 1 rfl (sl 40 rfl sn)) (el 10 rfl en) ?_
    refine tri_true rfl rfl ?_
    refine tri_seq ?_
    refine tri_reg mixed hcx ?_ _ _
    refine asg rfl ?_
    refine ⟨by kernel_rfl, ?_⟩
    refine nx (sl 2 rfl sn) (el 10 rfl en) ?_
    refine tri_ret ?_
    repeat (first | refine pn_thenr ?_ | refine pn_blkr ?_)
    exact ret1 hcx rfl (rv_tmp rfl) (.refl _) en

theorem t_Valid_c4 {D : List Int} {L : List (List Int)} {ts : List (Int × Int)} {a b : Int} {k : Nat} (hk : k ≤ 16777216) (hLl : L.length ≤ 1048576) (hDl : D.length ≤ 1048576) (htl : ts.length ≤ 1048576) (hn : L.length ≤ 12) (ht : ts.length = 0 ∨ ts.length = L.length) (hb : 0 < b) (ha : ¬ 0 ≤ a) : Fn Tryz.prog 79 [T.Tr D L ts a b k] [] [] [] (T.c (.int .i64 110)) := by
  refine fn_of Tryz.func79 rfl (by show 1 ≤ 61; decide) fun cx hcx => ?_
  refine tri_sub (sl 0 rfl sn) en ?_
  have hsb : sg b = 1 := sg_pos hb
  have hsa : sg a = -1 := sg_neg (by omega)
  refine tri_seq ?_
  refine tri_reg mixed hcx ?_ _ _
  refine bxs 10 rfl ?_
  refine asg rfl ?_
  refine ⟨by kernel_rfl, ?_⟩
  refine nx (sl 1 rfl sn) (el 10 rfl en) ?_
  refine tri_seq ?_
  refine tri_reg mixed hcx ?_ _ _
  refine fa rfl fTrG 0 ?_
  refine fa rfl fL 1 ?_
  refine ld rfl rfl tyZss rfl ?_
  refine ln slZss rfl ?_
  refine asg rfl ?_
  refine ⟨by kernel_rfl, ?_⟩
  refine nx (sl 1 rfl (sl 3 rfl sn)) (el 10 rfl en) ?_
  refine tri_seq ?_
  refine tri_seq ?_
  by_cases htz : ts.length = 0
  · refine tri_reg mixed hcx ?_ _ _
    refine mv rfl ?_
    refine cgt rfl rfl (decide_eq_false (by omega)) ?_
    refine mv rfl ?_
    refine fa rfl fTrT 2 ?_ (hg := gd1)
    refine ld rfl rfl tyQs rfl ?_ (hg := gd1)
    refine ln slQs rfl ?_ (hg := gd1)
    refine cne rfl rfl (decide_eq_false (by omega)) ?_ (hg := gd1)
    refine mv rfl ?_ (hg := gd1)
    refine j_off rfl rfl rfl rfl ?_
    refine j_off rfl rfl rfl rfl ?_
    refine j_off rfl rfl rfl rfl ?_
    refine j_off rfl rfl rfl rfl ?_
    refine j_off rfl rfl rfl rfl ?_
    refine pk rfl rfl ?_ (hg := gd1)
    refine pk rfl rfl ?_
    refine mv rfl ?_
    refine fa rfl fTrR 3 ?_ (hg := gd1)
    refine fa rfl fDen 5 ?_ (hg := gd1)
    refine ld rfl rfl tyZ rfl ?_ (hg := gd1)
    refine ca rfl (h := zi_Sign (by omega)) (hn := ?_) (hg := gd1)
    refine cle rfl rfl (decide_eq_false (by omega)) ?_ (hg := gd1)
    refine pk rfl rfl ?_
    refine mv rfl ?_
    refine fa rfl fTrR 3 ?_ (hg := gd1)
    refine fa rfl fNum 3 ?_ (hg := gd1)
    refine ld rfl rfl tyZ rfl ?_ (hg := gd1)
    refine ca rfl (h := zi_Sign (by omega)) (hn := ?_) (hg := gd1)
    refine clt rfl rfl (decide_eq_true (by omega)) ?_ (hg := gd1)
    refine pk rfl rfl ?_
    refine ⟨by kernel_rfl, ?_⟩
    refine nx (sl 1 rfl (sl 40 rfl sn)) (el 10 rfl en) ?_
    refine tri_true rfl rfl ?_
    refine tri_seq ?_
    refine tri_reg mixed hcx ?_ _ _
    refine asg rfl ?_
    refine ⟨by kernel_rfl, ?_⟩
    refine nx (sl 2 rfl sn) (el 10 rfl en) ?_
    refine tri_ret ?_
    repeat (first | refine pn_thenr ?_ | refine pn_blkr ?_)
    exact ret1 hcx rfl (rv_tmp rfl) (.refl _) en
  · have htn : ts.length = L.length := by rcases ht with h | h <;> omega
    refine tri_reg mixed hcx ?_ _ _
    refine mv rfl ?_
    refine cgt rfl rfl (decide_eq_false (by omega)) ?_
    refine mv rfl ?_
    refine fa rfl fTrT 2 ?_ (hg := gd1)
    refine ld rfl rfl tyQs rfl ?_ (hg := gd1)
    refine ln slQs rfl ?_ (hg := gd1)
    refine cne rfl rfl (decide_eq_true (by omega)) ?_ (hg := gd1)
    refine mv rfl ?_ (hg := gd1)
    refine fa rfl fTrT 2 ?_ (hg := gd1)
    refine ld rfl rfl tyQs rfl ?_ (hg := gd1)
    refine ln slQs rfl ?_ (hg := gd1)
    refine mv rfl ?_ (hg := gd1)
    refine cne rfl rfl (decide_eq_false (by omega)) ?_ (hg := gd1)
    refine pk rfl rfl ?_ (hg := gd1)
    refine pk rfl rfl ?_
    refine mv rfl ?_
    refine fa rfl fTrR 3 ?_ (hg := gd1)
    refine fa rfl fDen 5 ?_ (hg := gd1)
    refine ld rfl rfl tyZ rfl ?_ (hg := gd1)
    refine ca rfl (h := zi_Sign (by omega)) (hn := ?_) (hg := gd1)
    refine cle rfl rfl (decide_eq_false (by omega)) ?_ (hg := gd1)
    refine pk rfl rfl ?_
    refine mv rfl ?_
    refine fa rfl fTrR 3 ?_ (hg := gd1)
    refine fa rfl fNum 3 ?_ (hg := gd1)
    refine ld rfl rfl tyZ rfl ?_ (hg := gd1)
    refine ca rfl (h := zi_Sign (by omega)) (hn := ?_) (hg := gd1)
    refine clt rfl rfl (decide_eq_true (by omega)) ?_ (hg := gd1)
    refine pk rfl rfl ?_
    refine ⟨by kernel_rfl, ?_⟩
    refine nx (sl 1 rfl (sl 40 rfl sn)) (el 10 rfl en) ?_
    refine tri_true rfl rfl ?_
    refine tri_seq ?_
    refine tri_reg mixed hcx ?_ _ _
    refine asg rfl ?_
    refine ⟨by kernel_rfl, ?_⟩
    refine nx (sl 2 rfl sn) (el 10 rfl en) ?_
    refine tri_ret ?_
    repeat (first | refine pn_thenr ?_ | refine pn_blkr ?_)
    exact ret1 hcx rfl (rv_tmp rfl) (.refl _) en

theorem t_Valid_c5 {D : List Int} {L : List (List Int)} {ts : List (Int × Int)} {a b : Int} {k : Nat} (hk : k ≤ 16777216) (hLl : L.length ≤ 1048576) (hDl : D.length ≤ 1048576) (htl : ts.length ≤ 1048576) (hn : L.length ≤ 12) (ht : ts.length = 0 ∨ ts.length = L.length) (hb : 0 < b) (ha : 0 ≤ a) (hG : ¬ GoodP D L) : Fn Tryz.prog 79 [T.Tr D L ts a b k] [] [] [] (T.c (.int .i64 110)) := by
  refine fn_of Tryz.func79 rfl (by show 1 ≤ 61; decide) fun cx hcx => ?_
  refine tri_sub (sl 0 rfl sn) en ?_
  have hsb : sg b = 1 := sg_pos hb
  have hsa : 0 ≤ sg a := sg_nn ha
  refine tri_seq ?_
  refine tri_reg mixed hcx ?_ _ _
  refine bxs 10 rfl ?_
  refine asg rfl ?_
  refine ⟨by kernel_rfl, ?_⟩
  refine nx (sl 1 rfl sn) (el 10 rfl en) ?_
  refine tri_seq ?_
  refine tri_reg mixed hcx ?_ _ _
  refine fa rfl fTrG 0 ?_
  refine fa rfl fL 1 ?_
  refine ld rfl rfl tyZss rfl ?_
  refine ln slZss rfl ?_
  refine asg rfl ?_
  refine ⟨by kernel_rfl, ?_⟩
  refine nx (sl 1 rfl (sl 3 rfl sn)) (el 10 rfl en) ?_
  refine tri_seq ?_
  refine tri_seq ?_
  by_cases htz : ts.length = 0
  · refine tri_reg mixed hcx ?_ _ _
    refine mv rfl ?_
    refine cgt rfl rfl (decide_eq_false (by omega)) ?_
    refine mv rfl ?_
    refine fa rfl fTrT 2 ?_ (hg := gd1)
    refine ld rfl rfl tyQs rfl ?_ (hg := gd1)
    refine ln slQs rfl ?_ (hg := gd1)
    refine cne rfl rfl (decide_eq_false (by omega)) ?_ (hg := gd1)
    refine mv rfl ?_ (hg := gd1)
    refine j_off rfl rfl rfl rfl ?_
    refine j_off rfl rfl rfl rfl ?_
    refine j_off rfl rfl rfl rfl ?_
    refine j_off rfl rfl rfl rfl ?_
    refine j_off rfl rfl rfl rfl ?_
    refine pk rfl rfl ?_ (hg := gd1)
    refine pk rfl rfl ?_
    refine mv rfl ?_
    refine fa rfl fTrR 3 ?_ (hg := gd1)
    refine fa rfl fDen 5 ?_ (hg := gd1)
    refine ld rfl rfl tyZ rfl ?_ (hg := gd1)
    refine ca rfl (h := zi_Sign (by omega)) (hn := ?_) (hg := gd1)
    refine cle rfl rfl (decide_eq_false (by omega)) ?_ (hg := gd1)
    refine pk rfl rfl ?_
    refine mv rfl ?_
    refine fa rfl fTrR 3 ?_ (hg := gd1)
    refine fa rfl fNum 3 ?_ (hg := gd1)
    refine ld rfl rfl tyZ rfl ?_ (hg := gd1)
    refine ca rfl (h := zi_Sign (by omega)) (hn := ?_) (hg := gd1)
    refine clt rfl rfl (decide_eq_false (by omega)) ?_ (hg := gd1)
    refine pk rfl rfl ?_
    refine ⟨by kernel_rfl, ?_⟩
    refine nx (sl 1 rfl (sl 40 rfl sn)) (el 10 rfl en) ?_
    refine tri_false rfl rfl ?_
    refine tri_skip ?_
    refine nx (sl 1 rfl sn) (el 10 rfl en) ?_
    refine tri_seq ?_
    refine tri_seq ?_
    refine tri_reg mixed hcx ?_ _ _
    refine fa rfl fTrG 0 ?_
    refine ld rfl rfl tyG rfl ?_
    refine ca rfl (h := g_Star_no (k := k) (i := 0) (by omega) (by omega) (by omega) hG) (hn := ?_)
    refine mv rfl ?_
    refine ex rfl rfl ?_
    refine ex rfl rfl ?_
    refine nw 416 zeQ ?_
    refine st rfl rfl rfl tyQ rfl ?_
    refine asg rfl ?_
    refine ⟨by kernel_rfl, ?_⟩
    refine nx (sl 1 rfl (sl 5 rfl sn)) (el 10 rfl (el 416 rfl en)) ?_
    refine tri_seq ?_
    refine tri_reg mixed hcx ?_ _ _
    refine mv rfl ?_
    refine cne rfl rfl (decide_eq_true (by omega)) ?_
    refine ⟨by kernel_rfl, ?_⟩
    refine nx (sl 1 rfl (sl 48 rfl sn)) (el 10 rfl (el 416 rfl en)) ?_
    refine tri_true rfl rfl ?_
    refine tri_seq ?_
    refine tri_reg mixed hcx ?_ _ _
    refine asg rfl ?_
    refine ⟨by kernel_rfl, ?_⟩
    refine nx (sl 2 rfl sn) (el 10 rfl (el 416 rfl en)) ?_
    refine tri_ret ?_
    repeat (first | refine pn_thenr ?_ | refine pn_blkr ?_)
    exact ret1 hcx rfl (rv_tmp rfl) (.refl _) en
  · have htn : ts.length = L.length := by rcases ht with h | h <;> omega
    refine tri_reg mixed hcx ?_ _ _
    refine mv rfl ?_
    refine cgt rfl rfl (decide_eq_false (by omega)) ?_
    refine mv rfl ?_
    refine fa rfl fTrT 2 ?_ (hg := gd1)
    refine ld rfl rfl tyQs rfl ?_ (hg := gd1)
    refine ln slQs rfl ?_ (hg := gd1)
    refine cne rfl rfl (decide_eq_true (by omega)) ?_ (hg := gd1)
    refine mv rfl ?_ (hg := gd1)
    refine fa rfl fTrT 2 ?_ (hg := gd1)
    refine ld rfl rfl tyQs rfl ?_ (hg := gd1)
    refine ln slQs rfl ?_ (hg := gd1)
    refine mv rfl ?_ (hg := gd1)
    refine cne rfl rfl (decide_eq_false (by omega)) ?_ (hg := gd1)
    refine pk rfl rfl ?_ (hg := gd1)
    refine pk rfl rfl ?_
    refine mv rfl ?_
    refine fa rfl fTrR 3 ?_ (hg := gd1)
    refine fa rfl fDen 5 ?_ (hg := gd1)
    refine ld rfl rfl tyZ rfl ?_ (hg := gd1)
    refine ca rfl (h := zi_Sign (by omega)) (hn := ?_) (hg := gd1)
    refine cle rfl rfl (decide_eq_false (by omega)) ?_ (hg := gd1)
    refine pk rfl rfl ?_
    refine mv rfl ?_
    refine fa rfl fTrR 3 ?_ (hg := gd1)
    refine fa rfl fNum 3 ?_ (hg := gd1)
    refine ld rfl rfl tyZ rfl ?_ (hg := gd1)
    refine ca rfl (h := zi_Sign (by omega)) (hn := ?_) (hg := gd1)
    refine clt rfl rfl (decide_eq_false (by omega)) ?_ (hg := gd1)
    refine pk rfl rfl ?_
    refine ⟨by kernel_rfl, ?_⟩
    refine nx (sl 1 rfl (sl 40 rfl sn)) (el 10 rfl en) ?_
    refine tri_false rfl rfl ?_
    refine tri_skip ?_
    refine nx (sl 1 rfl sn) (el 10 rfl en) ?_
    refine tri_seq ?_
    refine tri_seq ?_
    refine tri_reg mixed hcx ?_ _ _
    refine fa rfl fTrG 0 ?_
    refine ld rfl rfl tyG rfl ?_
    refine ca rfl (h := g_Star_no (k := k) (i := 0) (by omega) (by omega) (by omega) hG) (hn := ?_)
    refine mv rfl ?_
    refine ex rfl rfl ?_
    refine ex rfl rfl ?_
    refine nw 416 zeQ ?_
    refine st rfl rfl rfl tyQ rfl ?_
    refine asg rfl ?_
    refine ⟨by kernel_rfl, ?_⟩
    refine nx (sl 1 rfl (sl 5 rfl sn)) (el 10 rfl (el 416 rfl en)) ?_
    refine tri_seq ?_
    refine tri_reg mixed hcx ?_ _ _
    refine mv rfl ?_
    refine cne rfl rfl (decide_eq_true (by omega)) ?_
    refine ⟨by kernel_rfl, ?_⟩
    refine nx (sl 1 rfl (sl 48 rfl sn)) (el 10 rfl (el 416 rfl en)) ?_
    refine tri_true rfl rfl ?_
    refine tri_seq ?_
    refine tri_reg mixed hcx ?_ _ _
    refine asg rfl ?_
    refine ⟨by kernel_rfl, ?_⟩
    refine nx (sl 2 rfl sn) (el 10 rfl (el 416 rfl en)) ?_
    refine tri_ret ?_
    repeat (first | refine pn_thenr ?_ | refine pn_blkr ?_)
    exact ret1 hcx rfl (rv_tmp rfl) (.refl _) en

theorem t_Valid_c6 {D : List Int} {L : List (List Int)} {ts : List (Int × Int)} {a b : Int} {k : Nat} (hk : k ≤ 16777216) (hLl : L.length ≤ 1048576) (hDl : D.length ≤ 1048576) (htl : ts.length ≤ 1048576) (hn : L.length ≤ 12) (ht : ts.length = 0 ∨ ts.length = L.length) (hb : 0 < b) (ha : 0 ≤ a) (hG : GoodP D L) {w : Nat} (hw : w < ts.length) (hw1 : ¬ 0 < (ts.getD w (0, 0)).2) (hw2 : ∀ i, i < w → 0 < (ts.getD i (0, 0)).2) : Fn Tryz.prog 79 [T.Tr D L ts a b k] [] [] [] (T.c (.int .i64 110)) := by
  refine fn_of Tryz.func79 rfl (by show 1 ≤ 61; decide) fun cx hcx => ?_
  refine tri_sub (sl 0 rfl sn) en ?_
  have hsb : sg b = 1 := sg_pos hb
  have hsa : 0 ≤ sg a := sg_nn ha
  refine tri_seq ?_
  refine tri_reg mixed hcx ?_ _ _
  refine bxs 10 rfl ?_
  refine asg rfl ?_
  refine ⟨by kernel_rfl, ?_⟩
  refine nx (sl 1 rfl sn) (el 10 rfl en) ?_
  refine tri_seq ?_
  refine tri_reg mixed hcx ?_ _ _
  refine fa rfl fTrG 0 ?_
  refine fa rfl fL 1 ?_
  refine ld rfl rfl tyZss rfl ?_
  refine ln slZss rfl ?_
  refine asg rfl ?_
  refine ⟨by kernel_rfl, ?_⟩
  refine nx (sl 1 rfl (sl 3 rfl sn)) (el 10 rfl en) ?_
  refine tri_seq ?_
  refine tri_seq ?_
  by_cases htz : ts.length = 0
  · refine tri_reg mixed hcx ?_ _ _
    refine mv rfl ?_
    refine cgt rfl rfl (decide_eq_false (by omega)) ?_
    refine mv rfl ?_
    refine fa rfl fTrT 2 ?_ (hg := gd1)
    refine ld rfl rfl tyQs rfl ?_ (hg := gd1)
    refine ln slQs rfl ?_ (hg := gd1)
    refine cne rfl rfl (decide_eq_false (by omega)) ?_ (hg := gd1)
    refine mv rfl ?_ (hg := gd1)
    refine j_off rfl rfl rfl rfl ?_
    refine j_off rfl rfl rfl rfl ?_
    refine j_off rfl rfl rfl rfl ?_
    refine j_off rfl rfl rfl rfl ?_
    refine j_off rfl rfl rfl rfl ?_
    refine pk rfl rfl ?_ (hg := gd1)
    refine pk rfl rfl ?_
    refine mv rfl ?_
    refine fa rfl fTrR 3 ?_ (hg := gd1)
    refine fa rfl fDen 5 ?_ (hg := gd1)
    refine ld rfl rfl tyZ rfl ?_ (hg := gd1)
    refine ca rfl (h := zi_Sign (by omega)) (hn := ?_) (hg := gd1)
    refine cle rfl rfl (decide_eq_false (by omega)) ?_ (hg := gd1)
    refine pk rfl rfl ?_
    refine mv rfl ?_
    refine fa rfl fTrR 3 ?_ (hg := gd1)
    refine fa rfl fNum 3 ?_ (hg := gd1)
    refine ld rfl rfl tyZ rfl ?_ (hg := gd1)
    refine ca rfl (h := zi_Sign (by omega)) (hn := ?_) (hg := gd1)
    refine clt rfl rfl (decide_eq_false (by omega)) ?_ (hg := gd1)
    refine pk rfl rfl ?_
    refine ⟨by kernel_rfl, ?_⟩
    refine nx (sl 1 rfl (sl 40 rfl sn)) (el 10 rfl en) ?_
    refine tri_false rfl rfl ?_
    refine tri_skip ?_
    refine nx (sl 1 rfl sn) (el 10 rfl en) ?_
    refine tri_seq ?_
    refine tri_seq ?_
    refine tri_reg mixed hcx ?_ _ _
    refine fa rfl fTrG 0 ?_
    refine ld rfl rfl tyG rfl ?_
    refine ca rfl (h := g_Star (k := k) (i := 0) (by omega) (by omega) hG hG.1) (hn := ?_)
    refine mv rfl ?_
    refine ex rfl rfl ?_
    refine ex rfl rfl ?_
    refine nw 416 zeQ ?_
    refine st rfl rfl rfl tyQ rfl ?_
    refine asg rfl ?_
    refine ⟨by kernel_rfl, ?_⟩
    refine nx (sl 1 rfl (sl 5 rfl sn)) (el 10 rfl (el 416 rfl en)) ?_
    refine tri_seq ?_
    refine tri_reg mixed hcx ?_ _ _
    refine mv rfl ?_
    refine cne rfl rfl (decide_eq_false (by omega)) ?_
    refine ⟨by kernel_rfl, ?_⟩
    refine nx (sl 1 rfl (sl 48 rfl sn)) (el 10 rfl (el 416 rfl en)) ?_
    refine tri_false rfl rfl ?_
    refine tri_skip ?_
    refine nx (sl 1 rfl sn) (el 10 rfl (el 416 rfl en)) ?_
    refine tri_seq ?_
    refine tri_seq ?_
    refine tri_reg mixed hcx ?_ _ _
    refine fa rfl fTrT 2 ?_
    refine ld rfl rfl tyQs rfl ?_
    refine ln slQs rfl ?_
    refine mv rfl ?_
    refine ⟨by kernel_rfl, ?_⟩
    refine nx (sl 50 rfl (sl 51 rfl (sl 52 rfl sn))) (el 10 rfl (el 416 rfl en)) ?_
    refine tri_block ?_
    refine tri_loop (ι := Nat) (fun i => [(50, T.l (cQi k) ts), (51, T.c (.int .i64 (ts.length : Int))), (52, T.c (.int .i64 (i : Int)))]) (fun i => []) (fun i => ts.length - i) (fun i => (i ≤ w)) 0 (Nat.zero_le _) (sl 50 rfl (sl 51 rfl (sl 52 rfl sn))) en ?_
    rintro i hi
    refine tri_sub (sl 50 rfl (sl 51 rfl (sl 52 rfl sn))) en ?_
    refine tri_seq ?_
    refine tri_reg mixed hcx ?_ _ _
    refine clt rfl rfl (decide_eq_true (by omega)) ?_
    refine ⟨by kernel_rfl, ?_⟩
    refine nx (sl 50 rfl (sl 51 rfl (sl 52 rfl (sl 53 rfl sn)))) en ?_
    refine tri_seq ?_
    refine tri_true rfl rfl ?_
    refine tri_skip ?_
    refine nx (sl 50 rfl (sl 51 rfl (sl 52 rfl sn))) en ?_
    refine tri_seq ?_
    refine tri_block ?_
    refine tri_seq ?_
    refine tri_reg mixed hcx ?_ _ _
    refine ix rfl rfl slQs ⟨rfl, by omega⟩ ?_
    refine lf rfl tyQ ?_
    refine nw 912 zeQ ?_
    refine sts (zz := [T.Zi (ts.getD i (cQi k).dflt).1 k, T.Zi (ts.getD i (cQi k).dflt).2 k]) rfl rfl rfl tyQ rfl ?_
    refine ⟨by kernel_rfl, ?_⟩
    refine nx (sl 7 rfl (sl 50 rfl (sl 51 rfl (sl 52 rfl sn)))) (el 912 rfl en) ?_
    refine tri_seq ?_
    rcases Nat.lt_or_eq_of_le hi with hlt | heq
    · have hte : sg (ts.getD i (cQi k).dflt).2 = 1 := sg_pos (hw2 i hlt)
      refine tri_reg mixed hcx ?_ _ _
      refine fa rfl fDen 2 ?_
      refine ld rfl rfl tyZ rfl ?_
      refine ca rfl (h := zi_Sign (by omega)) (hn := ?_)
      refine cle rfl rfl (decide_eq_false (by omega)) ?_
      refine ⟨by kernel_rfl, ?_⟩
      refine nx (sl 50 rfl (sl 51 rfl (sl 52 rfl (sl 59 rfl sn)))) (el 912 rfl en) ?_
      refine tri_false rfl rfl ?_
      refine tri_skip ?_
      refine pn_blk ?_
      refine nx (sl 50 rfl (sl 51 rfl (sl 52 rfl sn))) (el 912 rfl en) ?_
      refine tri_reg mixed hcx ?_ _ _
      refine ad (((i + 1 : Nat) : Int)) rfl rfl rfl (by omega) ?_
      refine mv rfl ?_
      refine ⟨by kernel_rfl, ?_⟩
      exact pn_back (i + 1) (by first | omega | (dsimp only; omega)) (by omega) (sl 50 rfl (sl 51 rfl (sl 52 rfl sn))) en
    · have hte : sg (ts.getD i (cQi k).dflt).2 ≤ 0 := by rw [heq]; have h0 : ¬ 0 < (ts.getD w (cQi k).dflt).2 := hw1; rcases Int.lt_trichotomy (ts.getD w (cQi k).dflt).2 0 with h | h | h; rw [sg_neg h]; decide; rw [h, sg_zero]; omega; omega
      refine tri_reg mixed hcx ?_ _ _
      refine fa rfl fDen 2 ?_
      refine ld rfl rfl tyZ rfl ?_
      refine ca rfl (h := zi_Sign (by omega)) (hn := ?_)
      refine cle rfl rfl (decide_eq_true (by omega)) ?_
      refine ⟨by kernel_rfl, ?_⟩
      refine nx (sl 50 rfl (sl 51 rfl (sl 52 rfl (sl 59 rfl sn)))) (el 912 rfl en) ?_
      refine tri_true rfl rfl ?_
      refine tri_seq ?_
      refine tri_reg mixed hcx ?_ _ _
      refine asg rfl ?_
      refine ⟨by kernel_rfl, ?_⟩
      refine nx (sl 2 rfl sn) (el 912 rfl en) ?_
      refine tri_ret ?_
      repeat (first | refine pn_thenr ?_ | refine pn_blkr ?_)
      exact ret1 hcx rfl (rv_tmp rfl) (.refl _) en
  · have htn : ts.length = L.length := by rcases ht with h | h <;> omega
    refine tri_reg mixed hcx ?_ _ _
    refine mv rfl ?_
    refine cgt rfl rfl (decide_eq_false (by omega)) ?_
    refine mv rfl ?_
    refine fa rfl fTrT 2 ?_ (hg := gd1)
    refine ld rfl rfl tyQs rfl ?_ (hg := gd1)
    refine ln slQs rfl ?_ (hg := gd1)
    refine cne rfl rfl (decide_eq_true (by omega)) ?_ (hg := gd1)
    refine mv rfl ?_ (hg := gd1)
    refine fa rfl fTrT 2 ?_ (hg := gd1)
    refine ld rfl rfl tyQs rfl ?_ (hg := gd1)
    refine ln slQs rfl ?_ (hg := gd1)
    refine mv rfl ?_ (hg := gd1)
    refine cne rfl rfl (decide_eq_false (by omega)) ?_ (hg := gd1)
    refine pk rfl rfl ?_ (hg := gd1)
    refine pk rfl rfl ?_
    refine mv rfl ?_
    refine fa rfl fTrR 3 ?_ (hg := gd1)
    refine fa rfl fDen 5 ?_ (hg := gd1)
    refine ld rfl rfl tyZ rfl ?_ (hg := gd1)
    refine ca rfl (h := zi_Sign (by omega)) (hn := ?_) (hg := gd1)
    refine cle rfl rfl (decide_eq_false (by omega)) ?_ (hg := gd1)
    refine pk rfl rfl ?_
    refine mv rfl ?_
    refine fa rfl fTrR 3 ?_ (hg := gd1)
    refine fa rfl fNum 3 ?_ (hg := gd1)
    refine ld rfl rfl tyZ rfl ?_ (hg := gd1)
    refine ca rfl (h := zi_Sign (by omega)) (hn := ?_) (hg := gd1)
    refine clt rfl rfl (decide_eq_false (by omega)) ?_ (hg := gd1)
    refine pk rfl rfl ?_
    refine ⟨by kernel_rfl, ?_⟩
    refine nx (sl 1 rfl (sl 40 rfl sn)) (el 10 rfl en) ?_
    refine tri_false rfl rfl ?_
    refine tri_skip ?_
    refine nx (sl 1 rfl sn) (el 10 rfl en) ?_
    refine tri_seq ?_
    refine tri_seq ?_
    refine tri_reg mixed hcx ?_ _ _
    refine fa rfl fTrG 0 ?_
    refine ld rfl rfl tyG rfl ?_
    refine ca rfl (h := g_Star (k := k) (i := 0) (by omega) (by omega) hG hG.1) (hn := ?_)
    refine mv rfl ?_
    refine ex rfl rfl ?_
    refine ex rfl rfl ?_
    refine nw 416 zeQ ?_
    refine st rfl rfl rfl tyQ rfl ?_
    refine asg rfl ?_
    refine ⟨by kernel_rfl, ?_⟩
    refine nx (sl 1 rfl (sl 5 rfl sn)) (el 10 rfl (el 416 rfl en)) ?_
    refine tri_seq ?_
    refine tri_reg mixed hcx ?_ _ _
    refine mv rfl ?_
    refine cne rfl rfl (decide_eq_false (by omega)) ?_
    refine ⟨by kernel_rfl, ?_⟩
    refine nx (sl 1 rfl (sl 48 rfl sn)) (el 10 rfl (el 416 rfl en)) ?_
    refine tri_false rfl rfl ?_
    refine tri_skip ?_
    refine nx (sl 1 rfl sn) (el 10 rfl (el 416 rfl en)) ?_
    refine tri_seq ?_
    refine tri_seq ?_
    refine tri_reg mixed hcx ?_ _ _
    refine fa rfl fTrT 2 ?_
    refine ld rfl rfl tyQs rfl ?_
    refine ln slQs rfl ?_
    refine mv rfl ?_
    refine ⟨by kernel_rfl, ?_⟩
    refine nx (sl 50 rfl (sl 51 rfl (sl 52 rfl sn))) (el 10 rfl (el 416 rfl en)) ?_
    refine tri_block ?_
    refine tri_loop (ι := Nat) (fun i => [(50, T.l (cQi k) ts), (51, T.c (.int .i64 (ts.length : Int))), (52, T.c (.int .i64 (i : Int)))]) (fun i => []) (fun i => ts.length - i) (fun i => (i ≤ w)) 0 (Nat.zero_le _) (sl 50 rfl (sl 51 rfl (sl 52 rfl sn))) en ?_
    rintro i hi
    refine tri_sub (sl 50 rfl (sl 51 rfl (sl 52 rfl sn))) en ?_
    refine tri_seq ?_
    refine tri_reg mixed hcx ?_ _ _
    refine clt rfl rfl (decide_eq_true (by omega)) ?_
    refine ⟨by kernel_rfl, ?_⟩
    refine nx (sl 50 rfl (sl 51 rfl (sl 52 rfl (sl 53 rfl sn)))) en ?_
    refine tri_seq ?_
    refine tri_true rfl rfl ?_
    refine tri_skip ?_
    refine nx (sl 50 rfl (sl 51 rfl (sl 52 rfl sn))) en ?_
    refine tri_seq ?_
    refine tri_block ?_
    refine tri_seq ?_
    refine tri_reg mixed hcx ?_ _ _
    refine ix rfl rfl slQs ⟨rfl, by omega⟩ ?_
    refine lf rfl tyQ ?_
    refine nw 912 zeQ ?_
    refine sts (zz := [T.Zi (ts.getD i (cQi k).dflt).1 k, T.Zi (ts.getD i (cQi k).dflt).2 k]) rfl rfl rfl tyQ rfl ?_
    refine ⟨by kernel_rfl, ?_⟩
    refine nx (sl 7 rfl (sl 50 rfl (sl 51 rfl (sl 52 rfl sn)))) (el 912 rfl en) ?_
    refine tri_seq ?_
    rcases Nat.lt_or_eq_of_le hi with hlt | heq
    · have hte : sg (ts.getD i (cQi k).dflt).2 = 1 := sg_pos (hw2 i hlt)
      refine tri_reg mixed hcx ?_ _ _
      refine fa rfl fDen 2 ?_
      refine ld rfl rfl tyZ rfl ?_
      refine ca rfl (h := zi_Sign (by omega)) (hn := ?_)
      refine cle rfl rfl (decide_eq_false (by omega)) ?_
      refine ⟨by kernel_rfl, ?_⟩
      refine nx (sl 50 rfl (sl 51 rfl (sl 52 rfl (sl 59 rfl sn)))) (el 912 rfl en) ?_
      refine tri_false rfl rfl ?_
      refine tri_skip ?_
      refine pn_blk ?_
      refine nx (sl 50 rfl (sl 51 rfl (sl 52 rfl sn))) (el 912 rfl en) ?_
      refine tri_reg mixed hcx ?_ _ _
      refine ad (((i + 1 : Nat) : Int)) rfl rfl rfl (by omega) ?_
      refine mv rfl ?_
      refine ⟨by kernel_rfl, ?_⟩
      exact pn_back (i + 1) (by first | omega | (dsimp only; omega)) (by omega) (sl 50 rfl (sl 51 rfl (sl 52 rfl sn))) en
    · have hte : sg (ts.getD i (cQi k).dflt).2 ≤ 0 := by rw [heq]; have h0 : ¬ 0 < (ts.getD w (cQi k).dflt).2 := hw1; rcases Int.lt_trichotomy (ts.getD w (cQi k).dflt).2 0 with h | h | h; rw [sg_neg h]; decide; rw [h, sg_zero]; omega; omega
      refine tri_reg mixed hcx ?_ _ _
      refine fa rfl fDen 2 ?_
      refine ld rfl rfl tyZ rfl ?_
      refine ca rfl (h := zi_Sign (by omega)) (hn := ?_)
      refine cle rfl rfl (decide_eq_true (by omega)) ?_
      refine ⟨by kernel_rfl, ?_⟩
      refine nx (sl 50 rfl (sl 51 rfl (sl 52 rfl (sl 59 rfl sn)))) (el 912 rfl en) ?_
      refine tri_true rfl rfl ?_
      refine tri_seq ?_
      refine tri_reg mixed hcx ?_ _ _
      refine asg rfl ?_
      refine ⟨by kernel_rfl, ?_⟩
      refine nx (sl 2 rfl sn) (el 912 rfl en) ?_
      refine tri_ret ?_
      repeat (first | refine pn_thenr ?_ | refine pn_blkr ?_)
      exact ret1 hcx rfl (rv_tmp rfl) (.refl _) en

/-- What is no tree is refused. -/
theorem t_Valid_no {D : List Int} {L : List (List Int)} {ts : List (Int × Int)} {a b : Int} {k : Nat} (hk : k ≤ 16777216) (hLl : L.length ≤ 1048576) (hDl : D.length ≤ 1048576) (htl : ts.length ≤ 1048576) (hV : ¬ TrV D L ts a b) : Fn Tryz.prog 79 [T.Tr D L ts a b k] [] [] [] (T.c (.int .i64 110)) := by
  classical
  by_cases hn : L.length ≤ 12
  · by_cases ht : ts.length = 0 ∨ ts.length = L.length
    · by_cases hb : 0 < b
      · by_cases ha : 0 ≤ a
        · by_cases hG : GoodP D L
          · obtain ⟨w, h1, h2, h3⟩ := least_bad (P := fun i => 0 < (ts.getD i (0, 0)).2) (n := ts.length) (fun h => hV ⟨hG, hn, ht, h, hb, ha⟩)
            exact t_Valid_c6 hk hLl hDl htl hn ht hb ha hG h1 h2 h3
          · exact t_Valid_c5 hk hLl hDl htl hn ht hb ha hG
        · exact t_Valid_c4 hk hLl hDl htl hn ht hb ha
      · exact t_Valid_c3 hk hLl hDl htl hn ht hb
    · exact t_Valid_c2 hk hLl hDl htl hn (fun h => ht (.inl h)) (fun h => ht (.inr h))
  · exact t_Valid_c1 hk hLl hDl htl (by omega)

theorem t_fits_bad {D : List Int} {L : List (List Int)} {ts : List (Int × Int)} {a b : Int} {k : Nat} (hk : k ≤ 16777216) (hLl : L.length ≤ 1048576) (hDl : D.length ≤ 1048576) (htl : ts.length ≤ 1048576) (hV : ¬ TrV D L ts a b) {s : List Int} {m : Int} : Fn Tryz.prog 59 [T.Tr D L ts a b k, T.l (cZi k) s, T.c (.int .i64 m)] [] [] [] (T.c (.int .i64 110)) := by
  refine fn_of Tryz.func59 rfl (by show 3 ≤ 17; decide) fun cx hcx => ?_
  refine tri_sub (sl 0 rfl (sl 1 rfl (sl 2 rfl sn))) en ?_
  refine tri_seq ?_
  refine tri_reg mixed hcx ?_ _ _
  refine bxs 10 rfl ?_
  refine asg rfl ?_
  refine ⟨by kernel_rfl, ?_⟩
  refine nx (sl 1 rfl (sl 2 rfl (sl 3 rfl sn))) (el 10 rfl en) ?_
  refine tri_seq ?_
  refine tri_seq ?_
  refine tri_reg mixed hcx ?_ _ _
  refine ld rfl rfl tyTr rfl ?_
  refine ca rfl (h := t_Valid_no hk hLl hDl htl hV) (hn := ?_)
  refine asg rfl ?_
  refine ⟨by kernel_rfl, ?_⟩
  refine nx (sl 1 rfl (sl 2 rfl (sl 7 rfl sn))) (el 10 rfl en) ?_
  refine tri_seq ?_
  refine tri_reg mixed hcx ?_ _ _
  refine mv rfl ?_
  refine cne rfl rfl (decide_eq_true (by omega)) ?_
  refine ⟨by kernel_rfl, ?_⟩
  refine nx (sl 1 rfl (sl 2 rfl (sl 7 rfl (sl 11 rfl sn)))) (el 10 rfl en) ?_
  refine tri_true rfl rfl ?_
  refine tri_seq ?_
  refine tri_reg mixed hcx ?_ _ _
  refine mv rfl ?_
  refine asg rfl ?_
  refine ⟨by kernel_rfl, ?_⟩
  refine nx (sl 6 rfl sn) (el 10 rfl en) ?_
  refine tri_ret ?_
  repeat (first | refine pn_thenr ?_ | refine pn_blkr ?_)
  exact ret1 hcx rfl (rv_tmp rfl) (.refl _) en

end Go.Proofs.YtekghdfbhbhigaaGreat.V
