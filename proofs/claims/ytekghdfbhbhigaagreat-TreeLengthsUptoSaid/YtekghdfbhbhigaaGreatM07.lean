/- The document's data of a basis. -/
import Derived.Test.YtekghdfbhbhigaaGreatM06
set_option linter.unusedVariables false
set_option linter.unusedSimpArgs false
set_option maxRecDepth 100000
namespace Go.Proofs.YtekghdfbhbhigaaGreat.V
open Go.RowKit Mt Nml
theorem flo_int (z : Int) : flo ((z : Int) : Rat) = z := flo_iff.2 ⟨Rat.le_refl, by rw [Rat.lt_iff_sub_pos]; grind⟩
theorem DI.fstar {b : List (List Int)} {n : Nat} {D : List Int} {L : List (List Int)} (h : DI b n D L) (hp : ∀ k, k ≤ n → 0 < D.getD k 0) {i : Nat} (hi : i < n) : flo (sR b i * ((D.getD i 0 : Int) : Rat)) = D.getD (i + 1) 0 := by
  have hne : ((D.getD i 0 : Int) : Rat) ≠ 0 := rat_ne (by have := hp i (by omega); omega)
  rw [← h.star hi, show ((D.getD (i + 1) 0 : Int) : Rat) / ((D.getD i 0 : Int) : Rat) * ((D.getD i 0 : Int) : Rat) = ((D.getD (i + 1) 0 : Int) : Rat) by
    generalize ((D.getD (i + 1) 0 : Int) : Rat) = x
    generalize ((D.getD i 0 : Int) : Rat) = d at *
    grind]
  exact flo_int _
theorem DI.fmu {b : List (List Int)} {n : Nat} {D : List Int} {L : List (List Int)} (h : DI b n D L) (hp : ∀ k, k ≤ n → 0 < D.getD k 0) {i j : Nat} (hi : i < n) (hj : j < i) : flo (mR b i j * ((D.getD (j + 1) 0 : Int) : Rat)) = (L.getD i []).getD j 0 := by
  have hne : ((D.getD (j + 1) 0 : Int) : Rat) ≠ 0 := rat_ne (by have := hp (j + 1) (by omega); omega)
  rw [← h.mu hi hj, show (((L.getD i []).getD j 0 : Int) : Rat) / ((D.getD (j + 1) 0 : Int) : Rat) * ((D.getD (j + 1) 0 : Int) : Rat) = (((L.getD i []).getD j 0 : Int) : Rat) by
    generalize (((L.getD i []).getD j 0 : Int) : Rat) = x
    generalize ((D.getD (j + 1) 0 : Int) : Rat) = d at *
    grind]
  exact flo_int _

theorem r05_data {b : List (List Int)} {n K : Nat} {D : List Int} {L : List (List Int)} (h : DI b n D L) (hn : n ≤ 12) (hK : K ≤ 268435456) (hp : ∀ k, k ≤ n → 0 < D.getD k 0) (hD0 : D.getD 0 0 = 1) (hzD : ∀ j, zl (D.getD j 0) ≤ 1048576) (hzL : ∀ i j, zl ((L.getD j []).getD i 0) ≤ 1048576) : Fn Tryz.prog 53 [T.st [T.l (cL (cQ K)) (ML b n), T.l (cQ K) (SL b n)]] [] [] [] (T.st [T.l (cZ 1048576) D, T.l (cL (cZ 1048576)) L]) := by
  refine fn_of Tryz.func53 rfl (by show 1 ≤ 67; decide) fun cx hcx => ?_
  refine tri_sub (sl 0 rfl sn) en ?_
  have hlD := h.lD
  have hlL := h.lL
  have hSn : (SL b n).length = n := by simp [SL]
  have hMn : (ML b n).length = n := by simp [ML]
  have hD1 : ([1] : List Int) = D.take (0 + 1) := by cases D with | nil => simp at hlD | cons d r => simp at hD0; simp [hD0]
  refine tri_seq ?_
  refine tri_reg mixed hcx ?_ _ _
  refine bxs 10 rfl ?_
  refine nw 11 zeG ?_
  refine ⟨by kernel_rfl, ?_⟩
  refine nx (sl 1 rfl (sl 2 rfl sn)) (el 10 rfl (el 11 rfl en)) ?_
  refine tri_seq ?_
  refine tri_reg mixed hcx ?_ _ _
  refine nw 110 zeG ?_
  refine ⟨by kernel_rfl, ?_⟩
  refine nx (sl 1 rfl (sl 2 rfl (sl 3 rfl sn))) (el 10 rfl (el 11 rfl (el 110 rfl en))) ?_
  refine tri_seq ?_
  refine tri_reg mixed hcx ?_ _ _
  refine ca rfl (h := r02_Of (by omega) (by omega)) (hn := ?_)
  refine nw 211 zeZ ?_
  refine st rfl rfl rfl tyZ rfl ?_
  refine ⟨by kernel_rfl, ?_⟩
  refine nx (sl 1 rfl (sl 2 rfl (sl 3 rfl (sl 4 rfl sn)))) (el 10 rfl (el 11 rfl (el 110 rfl (el 211 rfl en)))) ?_
  refine tri_seq ?_
  refine tri_reg mixed hcx ?_ _ _
  refine fa rfl fD 0 ?_
  refine ld rfl rfl tyZs rfl ?_
  refine ld rfl rfl tyZ rfl ?_
  refine bs (c := cZ 1048576) (xs := [(1 : Int)]) slZs rfl ⟨z_mono (by decide), trivial⟩ ?_
  refine apn (c := cZ 1048576) 9 rfl rfl slZs (by decide) (by decide) ?_
  refine fa rfl fD 0 ?_
  refine st rfl rfl rfl tyZs rfl ?_
  refine ⟨by kernel_rfl, ?_⟩
  refine nx (sl 1 rfl (sl 2 rfl (sl 3 rfl (sl 4 rfl sn)))) (el 10 rfl (el 11 rfl (el 110 rfl (el 211 rfl (el 9 rfl en))))) ?_
  refine tri_seq ?_
  refine tri_seq ?_
  refine tri_nilb (cL (cZ 1048576)) 23 (bl := [T.o 9, T.c (.slice none 0 0)]) (bl' := [T.o 9, T.o 8]) 110 8 rfl ⟨.inl ⟨rfl, by show 8 ∉ [9]; decide⟩, .inr ⟨rfl, rfl⟩, trivial⟩ (by rw [hcx]; kernel_rfl) ?_
  refine tri_reg mixed hcx ?_ _ _
  refine asg rfl ?_
  refine ⟨by kernel_rfl, ?_⟩
  refine nx (sl 1 rfl (sl 2 rfl (sl 3 rfl (sl 4 rfl (sl 5 rfl sn))))) (el 10 rfl (el 11 rfl (el 110 rfl (el 211 rfl (el 9 rfl (el 8 rfl en)))))) ?_
  refine tri_block ?_
  refine tri_loop (ι := Nat) (fun i => [(1, T.p 10 0), (2, T.p 11 0), (3, T.p 110 0), (4, T.p 211 0), (5, T.c (.int .i64 (i : Int)))]) (fun i => [(10, some (Ent.box 96 [T.l (cL (cQ K)) (ML b n), T.l (cQ K) (SL b n)])), (11, some (Ent.box 27 [T.c (.slice none 0 0), T.c (.slice none 0 0)])), (110, some (Ent.box 27 [T.o 9, T.o 8])), (211, some (Ent.box 32 [T.Z (D.getD i 0) 1048576])), (9, some (Ent.row (cZ 1048576) 32 (D.take (i + 1)))), (8, some (Ent.row (cL (cZ 1048576)) 23 (L.take i)))]) (fun i => n - i) (fun i => (i ≤ n)) 0 (Nat.zero_le _) (sl 1 rfl (sl 2 rfl (sl 3 rfl (sl 4 rfl (sl 5 rfl sn))))) (el 10 rfl (el 11 rfl (el 110 rfl (ew 211 rfl (box_pack1 ((T.le.of (by rw [hD0])).trans (z_mono (by decide)))) (ew 9 rfl (.of (by rw [hD1])) (el 8 rfl en)))))) ?_
  rintro i hi
  refine tri_sub (sl 1 rfl (sl 2 rfl (sl 3 rfl (sl 4 rfl (sl 5 rfl sn))))) (el 10 rfl (el 11 rfl (el 110 rfl (el 211 rfl (el 9 rfl (el 8 rfl en)))))) ?_
  refine tri_seq ?_
  refine tri_seq ?_
  refine tri_reg mixed hcx ?_ _ _
  refine mv rfl ?_
  refine fa rfl fStar 1 ?_
  refine ld rfl rfl tyQs rfl ?_
  refine ln slQs rfl ?_
  refine clt rfl rfl rfl ?_
  refine ⟨by kernel_rfl, ?_⟩
  refine nx (sl 1 rfl (sl 2 rfl (sl 3 rfl (sl 4 rfl (sl 5 rfl (sl 19 rfl sn)))))) (el 10 rfl (el 11 rfl (el 110 rfl (el 211 rfl (el 9 rfl (el 8 rfl en)))))) ?_
  refine tri_if rfl (fun hc => ?_) (fun hc => ?_)
  · have hc2 : i < n := by omega
    have hDl : (D.take (i + 1)).length = i + 1 := by rw [List.length_take]; omega
    have hLl : (L.take i).length = i := by rw [List.length_take]; omega
    have hLi := h.lr i hc2
    have hsq : (SL b n).getD i (cQ K).dflt = sR b i := rng_at hc2
    have hDs : D.take (i + 1) ++ [D.getD (i + 1) 0] = D.take (i + 1 + 1) := take_snoc (by omega)
    have hLs : L.take i ++ [L.getD i []] = L.take (i + 1) := take_snoc (by omega)
    refine tri_skip ?_
    refine nx (sl 1 rfl (sl 2 rfl (sl 3 rfl (sl 4 rfl (sl 5 rfl sn))))) (el 10 rfl (el 11 rfl (el 110 rfl (el 211 rfl (el 9 rfl (el 8 rfl en)))))) ?_
    refine tri_seq ?_
    refine tri_block ?_
    refine tri_seq ?_
    refine tri_reg mixed hcx ?_ _ _
    refine asg rfl ?_
    refine ⟨by kernel_rfl, ?_⟩
    refine nx (sl 1 rfl (sl 2 rfl (sl 3 rfl (sl 4 rfl (sl 5 rfl (sl 6 rfl sn)))))) (el 10 rfl (el 11 rfl (el 110 rfl (el 211 rfl (el 9 rfl (el 8 rfl en)))))) ?_
    refine tri_seq ?_
    refine tri_seq ?_
    refine tri_nil 6 7 32 (cZ 1048576) rfl (by rw [hcx]; kernel_rfl) ?_
    refine tri_reg mixed hcx ?_ _ _
    refine asg rfl ?_
    refine ⟨by kernel_rfl, ?_⟩
    refine nx (sl 1 rfl (sl 2 rfl (sl 3 rfl (sl 4 rfl (sl 5 rfl (sl 6 rfl (sl 7 rfl sn))))))) (el 10 rfl (el 11 rfl (el 110 rfl (el 211 rfl (el 9 rfl (el 8 rfl (el 7 rfl en))))))) ?_
    refine tri_block ?_
    refine tri_loop (ι := Nat) (fun j => [(1, T.p 10 0), (2, T.p 11 0), (3, T.p 110 0), (4, T.p 211 0), (5, T.c (.int .i64 (i : Int))), (6, T.o 7), (7, T.c (.int .i64 (j : Int)))]) (fun j => [(10, some (Ent.box 96 [T.l (cL (cQ K)) (ML b n), T.l (cQ K) (SL b n)])), (11, some (Ent.box 27 [T.c (.slice none 0 0), T.c (.slice none 0 0)])), (110, some (Ent.box 27 [T.o 9, T.o 8])), (211, some (Ent.box 32 [T.Z (D.getD i 0) 1048576])), (9, some (Ent.row (cZ 1048576) 32 (D.take (i + 1)))), (8, some (Ent.row (cL (cZ 1048576)) 23 (L.take i))), (7, some (Ent.row (cZ 1048576) 32 ((L.getD i []).take j)))]) (fun j => i - j) (fun j => (j ≤ i)) 0 (Nat.zero_le _) (sl 1 rfl (sl 2 rfl (sl 3 rfl (sl 4 rfl (sl 5 rfl (sl 6 rfl (sl 7 rfl sn))))))) (el 10 rfl (el 11 rfl (el 110 rfl (el 211 rfl (el 9 rfl (el 8 rfl (el 7 rfl en))))))) ?_
    rintro j hj
    refine tri_sub (sl 1 rfl (sl 2 rfl (sl 3 rfl (sl 4 rfl (sl 5 rfl (sl 6 rfl (sl 7 rfl sn))))))) (el 10 rfl (el 11 rfl (el 110 rfl (el 211 rfl (el 9 rfl (el 8 rfl (el 7 rfl en))))))) ?_
    refine tri_seq ?_
    refine tri_seq ?_
    refine tri_reg mixed hcx ?_ _ _
    refine mv rfl ?_
    refine mv rfl ?_
    refine clt rfl rfl rfl ?_
    refine ⟨by kernel_rfl, ?_⟩
    refine nx (sl 1 rfl (sl 2 rfl (sl 3 rfl (sl 4 rfl (sl 5 rfl (sl 6 rfl (sl 7 rfl (sl 24 rfl sn)))))))) (el 10 rfl (el 11 rfl (el 110 rfl (el 211 rfl (el 9 rfl (el 8 rfl (el 7 rfl en))))))) ?_
    refine tri_if rfl (fun hc3 => ?_) (fun hc3 => ?_)
    · have hc4 : j < i := by omega
      have hmq : ((ML b n).getD i (cL (cQ K)).dflt).getD j (cQ K).dflt = mR b i j := by rw [show (ML b n).getD i (cL (cQ K)).dflt = mL b i i from rng_at hc2]; exact mL_at hc4
      have hdq : (D.take (i + 1)).getD (j + 1) (cZ 1048576).dflt = D.getD (j + 1) 0 := by rw [show (cZ 1048576).dflt = 0 from rfl]; exact take_getD (by omega)
      have hMi : ((ML b n).getD i (cL (cQ K)).dflt).length = i := by rw [show (ML b n).getD i (cL (cQ K)).dflt = mL b i i from rng_at hc2]; simp [mL]
      have hrl : ((L.getD i []).take j).length = j := by rw [List.length_take]; omega
      have hrs : (L.getD i []).take j ++ [(L.getD i []).getD j 0] = (L.getD i []).take (j + 1) := take_snoc (by omega)
      refine tri_skip ?_
      refine nx (sl 1 rfl (sl 2 rfl (sl 3 rfl (sl 4 rfl (sl 5 rfl (sl 6 rfl (sl 7 rfl sn))))))) (el 10 rfl (el 11 rfl (el 110 rfl (el 211 rfl (el 9 rfl (el 8 rfl (el 7 rfl en))))))) ?_
      refine tri_seq ?_
      refine tri_block ?_
      refine tri_reg mixed hcx ?_ _ _
      refine mv rfl ?_
      refine fa rfl fMu 0 ?_
      refine ld rfl rfl tyQss rfl ?_
      refine mv rfl ?_
      refine ix rfl rfl slQss ⟨rfl, by omega⟩ ?_
      refine lf rfl tyQs ?_
      refine mv rfl ?_
      refine ix rfl rfl slQs ⟨rfl, by omega⟩ ?_
      refine lf rfl tyQ ?_
      refine fa rfl fD 0 ?_
      refine ld rfl rfl tyZs rfl ?_
      refine mv rfl ?_
      refine ad (((j + 1 : Nat) : Int)) rfl rfl rfl (by omega) ?_
      refine ixo rfl rfl rfl slZs ⟨rfl, by omega⟩ ?_
      refine lo (j + 1) rfl rfl tyZ ⟨rfl, rfl, by omega⟩ ?_
      refine ca rfl (h := r05_times (by omega) (by omega)) (hn := ?_)
      refine ca rfl (h := r03_Floor (by omega)) (hn := ?_)
      refine bs (c := cZ 1048576) (xs := [(L.getD i []).getD j 0]) slZs rfl ⟨(T.le.of (by rw [hmq, hdq, h.fmu hp hc2 hc4])).trans (z_as (hzL j i)), trivial⟩ ?_
      refine ap 1128 rfl rfl rfl slZs (by simp only [List.length_cons, List.length_nil]; omega) (by decide) ?_
      refine asg rfl ?_
      refine ⟨by kernel_rfl, ?_⟩
      refine pn_blk ?_
      refine nx (sl 1 rfl (sl 2 rfl (sl 3 rfl (sl 4 rfl (sl 5 rfl (sl 6 rfl (sl 7 rfl sn))))))) (el 10 rfl (el 11 rfl (el 110 rfl (el 211 rfl (el 9 rfl (el 8 rfl (el 1128 rfl en))))))) ?_
      refine tri_reg mixed hcx ?_ _ _
      refine mv rfl ?_
      refine ad (((j + 1 : Nat) : Int)) rfl rfl rfl (by omega) ?_
      refine asg rfl ?_
      refine ⟨by kernel_rfl, ?_⟩
      refine pn_sub (sl 1 rfl (sl 2 rfl (sl 3 rfl (sl 4 rfl (sl 5 rfl (sl 6 rfl (sl 7 rfl sn))))))) (el 10 rfl (el 11 rfl (el 110 rfl (el 211 rfl (el 9 rfl (el 8 rfl (el 1128 rfl en))))))) ?_
      refine pn_ren 6 7 1128 rfl rfl (by rw [hcx]; kernel_rfl) ?_
      exact pn_back (j + 1) (by first | omega | (dsimp only; omega)) (by omega) (sl 1 rfl (sl 2 rfl (sl 3 rfl (sl 4 rfl (sl 5 rfl (sl 6 rfl (sl 7 rfl sn))))))) (el 10 rfl (el 11 rfl (el 110 rfl (el 211 rfl (el 9 rfl (el 8 rfl (ew 7 rfl (.of (by rw [hrs])) en)))))))
    · refine tri_exit ?_
      repeat (first | refine pn_then ?_ | refine pn_oth (by decide) ?_)
      refine pn_ex ?_
      have hjn : j = i := by omega
      refine nx (sl 1 rfl (sl 2 rfl (sl 3 rfl (sl 4 rfl (sl 5 rfl (sl 6 rfl sn)))))) (el 10 rfl (el 11 rfl (el 110 rfl (el 211 rfl (el 9 rfl (el 8 rfl (el 7 rfl en))))))) ?_
      refine tri_seq ?_
      refine tri_fz 7 rfl ?_
      refine tri_rd 6 7 rfl rfl ?_
      refine tri_as 6 (Z := T.l (cZ 1048576) (L.getD i [])) rfl (.of (by rw [hjn, List.take_of_length_le (by omega)])) ?_
      refine tri_reg mixed hcx ?_ _ _
      refine fa rfl fL 1 ?_
      refine ld rfl rfl tyZss rfl ?_
      refine mv rfl ?_
      refine bs (c := cL (cZ 1048576)) (xs := [L.getD i []]) slZss rfl ⟨.refl _, trivial⟩ ?_
      refine ap 1214 rfl rfl rfl slZss (by simp only [List.length_cons, List.length_nil]; omega) (by decide) ?_
      refine fa rfl fL 1 ?_
      refine st rfl rfl rfl tyZss rfl ?_
      refine ⟨by kernel_rfl, ?_⟩
      refine nx (sl 1 rfl (sl 2 rfl (sl 3 rfl (sl 4 rfl (sl 5 rfl sn))))) (el 10 rfl (el 11 rfl (el 110 rfl (el 211 rfl (el 9 rfl (el 1214 rfl en)))))) ?_
      refine tri_seq ?_
      refine tri_reg mixed hcx ?_ _ _
      refine fa rfl fStar 1 ?_
      refine ld rfl rfl tyQs rfl ?_
      refine mv rfl ?_
      refine ix rfl rfl slQs ⟨rfl, by omega⟩ ?_
      refine lf rfl tyQ ?_
      refine ld rfl rfl tyZ rfl ?_
      refine ca rfl (h := r05_times (by omega) (by omega)) (hn := ?_)
      refine ca rfl (h := r03_Floor (by omega)) (hn := ?_)
      refine st rfl rfl rfl tyZ rfl ?_
      refine ⟨by kernel_rfl, ?_⟩
      refine nx (sl 1 rfl (sl 2 rfl (sl 3 rfl (sl 4 rfl (sl 5 rfl sn))))) (el 10 rfl (el 11 rfl (el 110 rfl (el 211 rfl (el 9 rfl (el 1214 rfl en)))))) ?_
      refine tri_reg mixed hcx ?_ _ _
      refine fa rfl fD 0 ?_
      refine ld rfl rfl tyZs rfl ?_
      refine ld rfl rfl tyZ rfl ?_
      refine bs (c := cZ 1048576) (xs := [D.getD (i + 1) 0]) slZs rfl ⟨(T.le.of (by rw [hsq, h.fstar hp hc2])).trans (z_as (hzD (i + 1))), trivial⟩ ?_
      refine ap 1414 rfl rfl rfl slZs (by simp only [List.length_cons, List.length_nil]; omega) (by decide) ?_
      refine fa rfl fD 0 ?_
      refine st rfl rfl rfl tyZs rfl ?_
      refine ⟨by kernel_rfl, ?_⟩
      refine pn_blk ?_
      refine nx (sl 1 rfl (sl 2 rfl (sl 3 rfl (sl 4 rfl (sl 5 rfl sn))))) (el 10 rfl (el 11 rfl (el 110 rfl (el 211 rfl (el 1214 rfl (el 1414 rfl en)))))) ?_
      refine tri_reg mixed hcx ?_ _ _
      refine mv rfl ?_
      refine ad (((i + 1 : Nat) : Int)) rfl rfl rfl (by omega) ?_
      refine asg rfl ?_
      refine ⟨by kernel_rfl, ?_⟩
      refine pn_sub (sl 1 rfl (sl 2 rfl (sl 3 rfl (sl 4 rfl (sl 5 rfl sn))))) (el 10 rfl (el 11 rfl (el 110 rfl (el 211 rfl (el 1214 rfl (el 1414 rfl en)))))) ?_
      refine pn_renb (bl := [T.o 1414, T.o 1214]) (bl' := [T.o 9, T.o 1214]) 110 9 1414 rfl rfl ⟨.inr ⟨rfl, rfl⟩, .inl ⟨rfl, by show 9 ∉ [1214]; decide⟩, trivial⟩ (by rw [hcx]; kernel_rfl) rfl ?_
      refine pn_renb (bl := [T.o 9, T.o 1214]) (bl' := [T.o 9, T.o 8]) 110 8 1214 rfl rfl ⟨.inl ⟨rfl, by show 8 ∉ [9]; decide⟩, .inr ⟨rfl, rfl⟩, trivial⟩ (by rw [hcx]; kernel_rfl) rfl ?_
      exact pn_back (i + 1) (by first | omega | (dsimp only; omega)) (by omega) (sl 1 rfl (sl 2 rfl (sl 3 rfl (sl 4 rfl (sl 5 rfl sn))))) (el 10 rfl (el 11 rfl (el 110 rfl (ew 211 rfl (box_pack1 ((T.le.of (by rw [hsq, h.fstar hp hc2])).trans (z_as (hzD (i + 1))))) (ew 9 rfl (.of (by rw [hDs])) (ew 8 rfl (.of (by rw [hLs])) en))))))
  · refine tri_exit ?_
    repeat (first | refine pn_then ?_ | refine pn_oth (by decide) ?_)
    refine pn_ex ?_
    have hin : i = n := by omega
    refine nx (sl 2 rfl (sl 3 rfl sn)) (el 10 rfl (el 11 rfl (el 110 rfl (el 211 rfl (el 9 rfl (el 8 rfl en)))))) ?_
    refine tri_seq ?_
    refine tri_fz 9 rfl ?_
    refine tri_rdb (bl := [T.o 9, T.o 8]) (bl' := [T.l (cZ 1048576) (D.take (i + 1)), T.o 8]) 110 9 rfl rfl ⟨.inr ⟨rfl, rfl⟩, .inl rfl, trivial⟩ ?_
    refine tri_fz 8 rfl ?_
    refine tri_rdb (bl := [T.l (cZ 1048576) (D.take (i + 1)), T.o 8]) (bl' := [T.l (cZ 1048576) (D.take (i + 1)), T.l (cL (cZ 1048576)) (L.take i)]) 110 8 rfl rfl ⟨.inl rfl, .inr ⟨rfl, rfl⟩, trivial⟩ ?_
    refine tri_reg mixed hcx ?_ _ _
    refine ld rfl rfl tyG rfl ?_
    refine st rfl rfl rfl tyG rfl ?_
    refine ⟨by kernel_rfl, ?_⟩
    refine nx (sl 2 rfl sn) (el 10 rfl (el 11 rfl (el 110 rfl (el 211 rfl en)))) ?_
    refine tri_ret ?_
    repeat (first | refine pn_thenr ?_ | refine pn_blkr ?_)
    exact ret1 hcx rfl (rv_cell (c' := cx) (n := 0) rfl rfl tyG rfl) (.of (by rw [hin, List.take_of_length_le (by omega), List.take_of_length_le (by omega)])) en
end Go.Proofs.YtekghdfbhbhigaaGreat.V
/- The law of filters is awake. -/
set_option linter.unusedVariables false
set_option linter.unusedSimpArgs false
set_option maxRecDepth 100000
namespace Go.Proofs.YtekghdfbhbhigaaGreat.V
open Go.RowKit Mt Nml
end Go.Proofs.YtekghdfbhbhigaaGreat.V
/- The law of the whole norm. -/
set_option linter.unusedVariables false
set_option linter.unusedSimpArgs false
set_option maxRecDepth 100000
namespace Go.Proofs.YtekghdfbhbhigaaGreat.V
open Go.RowKit Mt Nml
/-- A list from its end. -/
def rv (x : List Int) (n : Nat) : List Int := (List.range n).map fun j => x.getD (x.length - 1 - j) 0
theorem rv_succ {x : List Int} {n : Nat} : rv x n ++ [x.getD (x.length - 1 - n) 0] = rv x (n + 1) := by simp [rv, List.range_succ]
theorem rv_len {x : List Int} {n : Nat} : (rv x n).length = n := by simp [rv]
theorem rv_at {x : List Int} {n j : Nat} (h : j < n) : (rv x n).getD j 0 = x.getD (x.length - 1 - j) 0 := rng_at h
/-- The data of a basis as a tree's. -/
theorem data_T {b : List (List Int)} {D : List Int} {L : List (List Int)} (hR : ShR b true 0) (h : bld b b.length = some (D, L)) : TrS D L [] b.length 1048576 := by
  obtain ⟨h0, hb, hm, hm12, hbits⟩ := shr_basis hR
  have hS := val_S hbits (fun i hi => by rw [hm i hi]; exact hm12)
  have hB := bld_BI hS (Nat.le_refl _) h
  have hI := bld_DI h
  have hle : ∀ k, k ≤ 12 → bd 204 k ≤ 1048576 := fun k hk => Nat.le_trans (bd_mono hk) (by decide)
  refine ⟨hI.good h0, hI.lL, hb, .inl rfl, fun i hi => absurd hi (Nat.not_lt_zero _), fun i hi => absurd hi (Nat.not_lt_zero _), fun j => ?_, fun i j => ?_, by decide⟩
  · rcases Nat.lt_or_ge j (b.length + 1) with hj | hj
    · cases j with
      | zero =>
        rw [(hI.good h0).2.2.1]
        exact Nat.le_trans zl_one (by decide)
      | succ k => exact Nat.le_trans (hB.bD k (by omega)) (hle k (by omega))
    · rw [List.getD_eq_getElem?_getD, List.getElem?_eq_none (by rw [hI.lD]; exact hj)]
      show zl 0 ≤ _
      rw [zl_zero]; exact Nat.zero_le _
  · rcases Nat.lt_or_ge j b.length with hj | hj
    · rcases Nat.lt_or_ge i j with hi | hi
      · exact Nat.le_trans (hB.bL j i hj hi) (hle i (by omega))
      · rw [List.getD_eq_getElem?_getD, List.getElem?_eq_none (by rw [hI.lr j hj]; exact hi)]
        show zl 0 ≤ _
        rw [zl_zero]; exact Nat.zero_le _
    · rw [List.getD_eq_getElem?_getD (l := L), List.getElem?_eq_none (by rw [hI.lL]; exact hj)]
      show zl (([] : List Int).getD i 0) ≤ _
      rw [show ([] : List Int).getD i 0 = 0 from rfl, zl_zero]; exact Nat.zero_le _

-- left out

-- left out

-- left out

end Go.Proofs.YtekghdfbhbhigaaGreat.V
/- The document's data: Of. -/
set_option linter.unusedVariables false
set_option linter.unusedSimpArgs false
set_option maxRecDepth 100000
namespace Go.Proofs.YtekghdfbhbhigaaGreat.V
open Go.RowKit Mt Nml
theorem r05_Of_ok {b : List (List Int)} {k K : Nat} {D : List Int} {L : List (List Int)} (hv : Fn Tryz.prog 52 [T.l (cL (cZi k)) b, T.c (.bool true)] [] [] [] (T.tup [T.st [T.l (cL (cQ K)) (ML b b.length), T.l (cQ K) (SL b b.length)], T.c (.int .i64 0)])) (hd : Fn Tryz.prog 53 [T.st [T.l (cL (cQ K)) (ML b b.length), T.l (cQ K) (SL b b.length)]] [] [] [] (T.st [T.l (cZ 1048576) D, T.l (cL (cZ 1048576)) L])) : Fn Tryz.prog 12 [T.l (cL (cZi k)) b] [] [] [] (T.tup [T.st [T.l (cZ 1048576) D, T.l (cL (cZ 1048576)) L], T.c (.int .i64 0)]) := by
  refine fn_of Tryz.func12 rfl (by show 1 ≤ 17; decide) fun cx hcx => ?_
  refine tri_sub (sl 0 rfl sn) en ?_
  refine tri_seq ?_
  refine tri_reg mixed hcx ?_ _ _
  refine nw 10 zeG ?_
  refine asg rfl ?_
  refine ⟨by kernel_rfl, ?_⟩
  refine nx (sl 0 rfl (sl 2 rfl sn)) (el 10 rfl en) ?_
  refine tri_seq ?_
  refine tri_reg mixed hcx ?_ _ _
  refine mv rfl ?_
  refine ca rfl (h := hv) (hn := ?_)
  refine mv rfl ?_
  refine ex rfl rfl ?_
  refine ex rfl rfl ?_
  refine nw 115 zeR ?_
  refine sts rfl rfl rfl tyR rfl ?_
  refine asg rfl ?_
  refine ⟨by kernel_rfl, ?_⟩
  refine nx (sl 2 rfl (sl 4 rfl (sl 5 rfl sn))) (el 10 rfl (el 115 rfl en)) ?_
  refine tri_seq ?_
  refine tri_seq ?_
  refine tri_reg mixed hcx ?_ _ _
  refine mv rfl ?_
  refine cne rfl rfl (decide_eq_false (by omega)) ?_
  refine ⟨by kernel_rfl, ?_⟩
  refine nx (sl 2 rfl (sl 4 rfl (sl 5 rfl (sl 12 rfl sn)))) (el 10 rfl (el 115 rfl en)) ?_
  refine tri_false rfl rfl ?_
  refine tri_skip ?_
  refine nx (sl 2 rfl (sl 4 rfl sn)) (el 10 rfl (el 115 rfl en)) ?_
  refine tri_seq ?_
  refine tri_reg mixed hcx ?_ _ _
  refine ld rfl rfl tyR rfl ?_
  refine ca rfl (h := hd) (hn := ?_)
  refine sts rfl rfl rfl tyG rfl ?_
  refine asg rfl ?_
  refine ⟨by kernel_rfl, ?_⟩
  refine nx (sl 2 rfl (sl 3 rfl sn)) (el 10 rfl (el 115 rfl en)) ?_
  refine tri_ret ?_
  repeat (first | refine pn_thenr ?_ | refine pn_blkr ?_)
  exact ret2 hcx rfl (rv_cell (c' := cx) (n := 0) rfl rfl tyG rfl) (rv_tmp rfl) (.refl _) en

theorem r07_Product {a b : List (List Int)} {kx kb : Nat} {c : Cod Int} {out : List (List Int)} (h : Fn Tryz.prog 61 [T.l (cL (cZi kx)) a, T.l (cL (cZi kb)) b] [] [] [] (T.l (cL c) out)) : Fn Tryz.prog 17 [T.l (cL (cZi kx)) a, T.l (cL (cZi kb)) b] [] [] [] (T.l (cL c) out) := by
  refine fn_of Tryz.func17 rfl (by show 2 ≤ 8; decide) fun cx hcx => ?_
  refine tri_sub (sl 0 rfl (sl 1 rfl sn)) en ?_
  refine tri_seq ?_
  refine tri_reg mixed hcx ?_ _ _
  refine asg rfl ?_
  refine ⟨by kernel_rfl, ?_⟩
  refine nx (sl 0 rfl (sl 1 rfl sn)) en ?_
  refine tri_seq ?_
  refine tri_reg mixed hcx ?_ _ _
  refine mv rfl ?_
  refine mv rfl ?_
  refine ca rfl (h := h) (hn := ?_)
  refine asg rfl ?_
  refine ⟨by kernel_rfl, ?_⟩
  refine nx (sl 4 rfl sn) en ?_
  refine tri_ret ?_
  repeat (first | refine pn_thenr ?_ | refine pn_blkr ?_)
  exact ret1 hcx rfl (rv_tmp rfl) (.refl _) en

theorem t_len_err {b : List (List Int)} {x y : List Int} {k : Nat} (hk : k ≤ 1048576) (hbl : b.length ≤ 1048576) (hxl : x.length ≤ 1048576) (hyl : y.length ≤ 1048576) {r : Int} (hr : r ≠ 0) (hv : Fn Tryz.prog 11 [T.l (cL (cZi k)) b] [] [] [] (T.c (.int .i64 r))) : Fn Tryz.prog 3 [T.l (cL (cZi k)) b, T.l (cZi k) x, T.l (cZi k) y] [] [] [] (T.c (.bool true)) := by
  refine fn_of Tryz.func3 rfl (by show 3 ≤ 109; decide) fun cx hcx => ?_
  refine tri_sub (sl 0 rfl (sl 1 rfl (sl 2 rfl sn))) en ?_
  refine tri_seq ?_
  refine tri_reg mixed hcx ?_ _ _
  refine asg rfl ?_
  refine ⟨by kernel_rfl, ?_⟩
  refine nx (sl 0 rfl (sl 1 rfl (sl 2 rfl sn))) en ?_
  refine tri_seq ?_
  refine tri_seq ?_
  refine tri_reg mixed hcx ?_ _ _
  refine ca rfl (h := l11_awake) (hn := ?_)
  refine nt rfl _ rfl ?_
  refine ⟨by kernel_rfl, ?_⟩
  refine nx (sl 0 rfl (sl 1 rfl (sl 2 rfl (sl 18 rfl sn)))) en ?_
  refine tri_false rfl rfl ?_
  refine tri_skip ?_
  refine nx (sl 0 rfl (sl 1 rfl (sl 2 rfl sn))) en ?_
  refine tri_seq ?_
  refine tri_seq ?_
  refine tri_reg mixed hcx ?_ _ _
  refine mv rfl ?_
  refine ca rfl (h := hv) (hn := ?_)
  refine cne rfl rfl (decide_eq_true hr) ?_
  refine mv rfl ?_
  refine j_off rfl rfl rfl rfl ?_
  refine j_off rfl rfl rfl rfl ?_
  refine j_off rfl rfl rfl rfl ?_
  refine j_off rfl rfl rfl rfl ?_
  refine j_off rfl rfl rfl rfl ?_
  refine pk rfl rfl ?_
  refine mv rfl ?_
  refine j_off rfl rfl rfl rfl ?_
  refine j_off rfl rfl rfl rfl ?_
  refine j_off rfl rfl rfl rfl ?_
  refine j_off rfl rfl rfl rfl ?_
  refine j_off rfl rfl rfl rfl ?_
  refine pk rfl rfl ?_
  refine ⟨by kernel_rfl, ?_⟩
  refine nx (sl 0 rfl (sl 1 rfl (sl 2 rfl (sl 35 rfl sn)))) en ?_
  refine tri_true rfl rfl ?_
  refine tri_seq ?_
  refine tri_reg mixed hcx ?_ _ _
  refine asg rfl ?_
  refine ⟨by kernel_rfl, ?_⟩
  refine nx (sl 6 rfl sn) en ?_
  refine tri_ret ?_
  repeat (first | refine pn_thenr ?_ | refine pn_blkr ?_)
  exact ret1 hcx rfl (rv_tmp rfl) (.refl _) en

theorem t_len_x {b : List (List Int)} {x y : List Int} {k : Nat} (hk : k ≤ 1048576) (hbl : b.length ≤ 1048576) (hxl : x.length ≤ 1048576) (hyl : y.length ≤ 1048576) (hv : Fn Tryz.prog 11 [T.l (cL (cZi k)) b] [] [] [] (T.c (.int .i64 0))) (hx : x.length ≠ b.length) : Fn Tryz.prog 3 [T.l (cL (cZi k)) b, T.l (cZi k) x, T.l (cZi k) y] [] [] [] (T.c (.bool true)) := by
  refine fn_of Tryz.func3 rfl (by show 3 ≤ 109; decide) fun cx hcx => ?_
  refine tri_sub (sl 0 rfl (sl 1 rfl (sl 2 rfl sn))) en ?_
  refine tri_seq ?_
  refine tri_reg mixed hcx ?_ _ _
  refine asg rfl ?_
  refine ⟨by kernel_rfl, ?_⟩
  refine nx (sl 0 rfl (sl 1 rfl (sl 2 rfl sn))) en ?_
  refine tri_seq ?_
  refine tri_seq ?_
  refine tri_reg mixed hcx ?_ _ _
  refine ca rfl (h := l11_awake) (hn := ?_)
  refine nt rfl _ rfl ?_
  refine ⟨by kernel_rfl, ?_⟩
  refine nx (sl 0 rfl (sl 1 rfl (sl 2 rfl (sl 18 rfl sn)))) en ?_
  refine tri_false rfl rfl ?_
  refine tri_skip ?_
  refine nx (sl 0 rfl (sl 1 rfl (sl 2 rfl sn))) en ?_
  refine tri_seq ?_
  refine tri_seq ?_
  refine tri_reg mixed hcx ?_ _ _
  refine mv rfl ?_
  refine ca rfl (h := hv) (hn := ?_)
  refine cne rfl rfl (decide_eq_false (by omega)) ?_
  refine mv rfl ?_
  refine mv rfl ?_ (hg := gd1)
  refine ln slZs rfl ?_ (hg := gd1)
  refine mv rfl ?_ (hg := gd1)
  refine ln slZss rfl ?_ (hg := gd1)
  refine cne rfl rfl (decide_eq_true (by omega)) ?_ (hg := gd1)
  refine pk rfl rfl ?_
  refine mv rfl ?_
  refine j_off rfl rfl rfl rfl ?_
  refine j_off rfl rfl rfl rfl ?_
  refine j_off rfl rfl rfl rfl ?_
  refine j_off rfl rfl rfl rfl ?_
  refine j_off rfl rfl rfl rfl ?_
  refine pk rfl rfl ?_
  refine ⟨by kernel_rfl, ?_⟩
  refine nx (sl 0 rfl (sl 1 rfl (sl 2 rfl (sl 35 rfl sn)))) en ?_
  refine tri_true rfl rfl ?_
  refine tri_seq ?_
  refine tri_reg mixed hcx ?_ _ _
  refine asg rfl ?_
  refine ⟨by kernel_rfl, ?_⟩
  refine nx (sl 6 rfl sn) en ?_
  refine tri_ret ?_
  repeat (first | refine pn_thenr ?_ | refine pn_blkr ?_)
  exact ret1 hcx rfl (rv_tmp rfl) (.refl _) en

theorem t_len_y {b : List (List Int)} {x y : List Int} {k : Nat} (hk : k ≤ 1048576) (hbl : b.length ≤ 1048576) (hxl : x.length ≤ 1048576) (hyl : y.length ≤ 1048576) (hv : Fn Tryz.prog 11 [T.l (cL (cZi k)) b] [] [] [] (T.c (.int .i64 0))) (hx : x.length = b.length) (hy : y.length ≠ b.length) : Fn Tryz.prog 3 [T.l (cL (cZi k)) b, T.l (cZi k) x, T.l (cZi k) y] [] [] [] (T.c (.bool true)) := by
  refine fn_of Tryz.func3 rfl (by show 3 ≤ 109; decide) fun cx hcx => ?_
  refine tri_sub (sl 0 rfl (sl 1 rfl (sl 2 rfl sn))) en ?_
  refine tri_seq ?_
  refine tri_reg mixed hcx ?_ _ _
  refine asg rfl ?_
  refine ⟨by kernel_rfl, ?_⟩
  refine nx (sl 0 rfl (sl 1 rfl (sl 2 rfl sn))) en ?_
  refine tri_seq ?_
  refine tri_seq ?_
  refine tri_reg mixed hcx ?_ _ _
  refine ca rfl (h := l11_awake) (hn := ?_)
  refine nt rfl _ rfl ?_
  refine ⟨by kernel_rfl, ?_⟩
  refine nx (sl 0 rfl (sl 1 rfl (sl 2 rfl (sl 18 rfl sn)))) en ?_
  refine tri_false rfl rfl ?_
  refine tri_skip ?_
  refine nx (sl 0 rfl (sl 1 rfl (sl 2 rfl sn))) en ?_
  refine tri_seq ?_
  refine tri_seq ?_
  refine tri_reg mixed hcx ?_ _ _
  refine mv rfl ?_
  refine ca rfl (h := hv) (hn := ?_)
  refine cne rfl rfl (decide_eq_false (by omega)) ?_
  refine mv rfl ?_
  refine mv rfl ?_ (hg := gd1)
  refine ln slZs rfl ?_ (hg := gd1)
  refine mv rfl ?_ (hg := gd1)
  refine ln slZss rfl ?_ (hg := gd1)
  refine cne rfl rfl (decide_eq_false (by omega)) ?_ (hg := gd1)
  refine pk rfl rfl ?_
  refine mv rfl ?_
  refine mv rfl ?_ (hg := gd1)
  refine ln slZs rfl ?_ (hg := gd1)
  refine mv rfl ?_ (hg := gd1)
  refine ln slZss rfl ?_ (hg := gd1)
  refine cne rfl rfl (decide_eq_true (by omega)) ?_ (hg := gd1)
  refine pk rfl rfl ?_
  refine ⟨by kernel_rfl, ?_⟩
  refine nx (sl 0 rfl (sl 1 rfl (sl 2 rfl (sl 35 rfl sn)))) en ?_
  refine tri_true rfl rfl ?_
  refine tri_seq ?_
  refine tri_reg mixed hcx ?_ _ _
  refine asg rfl ?_
  refine ⟨by kernel_rfl, ?_⟩
  refine nx (sl 6 rfl sn) en ?_
  refine tri_ret ?_
  repeat (first | refine pn_thenr ?_ | refine pn_blkr ?_)
  exact ret1 hcx rfl (rv_tmp rfl) (.refl _) en

/-- The target's coefficients as a tree's; the suffix less the target, by rows. -/
def yts (y : List Int) (n : Nat) : List (Int × Int) := (List.range n).map fun i => (y.getD i 0, 1)
def ofs (x y : List Int) (n : Nat) : List Int := (List.range n).map fun i => x.getD i 0 - y.getD i 0
theorem yts_succ {y : List Int} {n : Nat} : yts y n ++ [(y.getD n 0, 1)] = yts y (n + 1) := by simp [yts, List.range_succ]
theorem ofs_succ {x y : List Int} {n : Nat} : ofs x y n ++ [x.getD n 0 - y.getD n 0] = ofs x y (n + 1) := by simp [ofs, List.range_succ]
theorem yts_len {y : List Int} {n : Nat} : (yts y n).length = n := by simp [yts]
theorem ofs_len {x y : List Int} {n : Nat} : (ofs x y n).length = n := by simp [ofs]
theorem yts_at {y : List Int} {n j : Nat} (h : j < n) : (yts y n).getD j (0, 0) = (y.getD j 0, 1) := rng_at h
theorem ofs_at {x y : List Int} {n j : Nat} (h : j < n) : (ofs x y n).getD j 0 = x.getD j 0 - y.getD j 0 := rng_at h
theorem yts_T {D : List Int} {L : List (List Int)} {n k : Nat} (h : TrS D L [] n k) {y : List Int} (hk : 1 ≤ k) (hz : ∀ j, zl (y.getD j 0) ≤ k) : TrS D L (yts y n) n k where
  good := h.good
  len := h.len
  twelve := h.twelve
  tl := .inr yts_len
  tp := fun i hi => by rw [yts_len] at hi; rw [yts_at hi]; show (0 : Int) < 1; decide
  zt := fun i hi => by rw [yts_len] at hi; rw [yts_at hi]; exact ⟨hz i, Nat.le_trans zl_one hk⟩
  zD := h.zD
  zL := h.zL
  hk := h.hk
theorem leaf_len {D : List Int} {L : List (List Int)} {b : List (List Int)} {x y : List Int} {m : Nat} (hI : DI b b.length D L) (hm : ∀ j, j < b.length → (b.getD j []).length = m) (h0 : 0 < b.length) (hx : x.length = b.length) :
    ptT D L (yts y b.length) (rv x b.length) (b.length - 1) (rv x b.length).length = ((dotU (vU b (ofs x y b.length) m b.length) (vU b (ofs x y b.length) m b.length) m : Int) : Rat) := by
  rw [← norm_len hI hm, rv_len]
  have h1 : b.length - 1 + 1 = b.length := by omega
  have := part_sU (D := D) (L := L) (ts := yts y b.length) (s := rv x b.length) (off := ofs x y b.length) (m := b.length - 1) (fun j hj => by
    rw [rv_at (by omega), hx, show b.length - 1 - (b.length - 1 - j) = j by omega, ofs_at (by omega), Rat.intCast_sub]
    unfold aqT
    rw [if_neg (by rw [yts_len]; omega)]
    show _ - (((yts y b.length).getD j (0, 0)).1 : Rat) / (((yts y b.length).getD j (0, 0)).2 : Rat) = _
    rw [yts_at (by omega)]
    show _ - ((y.getD j 0 : Int) : Rat) / ((1 : Int) : Rat) = _
    rw [show ((1 : Int) : Rat) = 1 from rfl]
    grind)
  rwa [h1] at this
theorem box_eqT {et : TypeId} {l l' : List T} (h : l = l') : (Ent.box et l).le (Ent.box et l') := by subst h; exact fun _ _ _ _ _ h => h
theorem ll_le {k : Nat} {L : List (List Int)} : (T.l (cL (cZ k)) L).le (T.l (cL (cZi k)) L) := IsL.le (c := cL (cZi k))
theorem qi_row {z : Int} {k K : Nat} (hk : zl z ≤ k) (h : k ≤ K) (h1 : 1 ≤ K) : ∀ {l : Nat}, (T.Q ((z : Int) : Rat) l).le (T.st [T.Zi z K, T.Zi 1 K]) := fun {l} => st_le (l := [T.Z ((z : Int) : Rat).num l, T.Z ((((z : Int) : Rat).den : Nat) : Int) l]) (l' := [T.Zi z K, T.Zi 1 K]) ⟨(z_as (z := z) (Nat.le_trans hk h)).trans (z_zi _ _), (z_as (z := 1) (Nat.le_trans zl_one h1)).trans (z_zi _ _), trivial⟩

theorem t_len_ok {b : List (List Int)} {x y : List Int} {k : Nat} (hk : k ≤ 1048574) (hbl : b.length ≤ 1048576) (hxl : x.length ≤ 1048576) (hyl : y.length ≤ 1048576) {D : List Int} {L : List (List Int)} {m : Nat} (hv : Fn Tryz.prog 11 [T.l (cL (cZi k)) b] [] [] [] (T.c (.int .i64 0))) (ho : Fn Tryz.prog 12 [T.l (cL (cZi k)) b] [] [] [] (T.tup [T.st [T.l (cZ 1048576) D, T.l (cL (cZ 1048576)) L], T.c (.int .i64 0)])) (hI : DI b b.length D L) (hT : TrS D L [] b.length 1048576) (hm : ∀ i, i < b.length → (b.getD i []).length = m) (hm12 : m ≤ 12) (hx : x.length = b.length) (hy : y.length = b.length) : Fn Tryz.prog 3 [T.l (cL (cZi k)) b, T.l (cZi k) x, T.l (cZi k) y] [] [] [] (T.c (.bool true)) := by
  refine fn_of Tryz.func3 rfl (by show 3 ≤ 109; decide) fun cx hcx => ?_
  refine tri_sub (sl 0 rfl (sl 1 rfl (sl 2 rfl sn))) en ?_
  have hbl12 := hT.twelve
  have h0 := hT.pos
  refine tri_lz 1 rfl fun hxz => ?_
  refine tri_lz 2 rfl fun hyz => ?_
  have hTy := yts_T hT (y := y) (by decide) (fun j => Nat.le_trans (hyz j) (by omega))
  have hP := fn_out (t_Part (a := 0) (b := 1) (s := rv x b.length) hTy (by decide) (by decide) (by rw [rv_len]; exact Nat.le_refl _)) (tup_le (l' := [T.Q (((dotU (vU b (ofs x y b.length) m b.length) (vU b (ofs x y b.length) m b.length) m) : Int) : Rat) 15100000000, T.c (.int .i64 0)]) ⟨q_eq (leaf_len hI hm h0 hx) (Nat.le_refl _), .refl _, trivial⟩)
  have htr : (T.st [T.st [T.l (cZ 1048576) D, T.l (cL (cZ 1048576)) L], T.l (cQi 1048576) (yts y b.length), T.Q ((0 : Int) : Rat) (2 + 2)]).le (T.Tr D L (yts y b.length) 0 1 1048576) := tr_flat.trans (st_le ⟨tl_le (fun z => z_zi z _) _, ll_le, .refl _, (z_mono (by decide)).trans (z_zi 0 _), (z_mono (by decide)).trans (z_zi 1 _), trivial⟩)
  have hpr : prU [ofs x y b.length] b m 1 = [(vU b (ofs x y b.length) m b.length)] := by show [vU b (ofs x y b.length) m (ofs x y b.length).length] = _; rw [ofs_len]
  have hpl : (prU [ofs x y b.length] b m [ofs x y b.length].length).length = 1 := by rw [show [ofs x y b.length].length = 1 from rfl, hpr]; rfl
  have hvl : (vU b (ofs x y b.length) m b.length).length = m := vU_len _ _ _ _
  have hkb : b.length * (1048576 + k + 1) ≤ 12 * 2097153 := Nat.mul_le_mul hbl12 (by omega)
  have hdk : (vU b (ofs x y b.length) m b.length).length * (b.length * (1048576 + k + 1) + b.length * (1048576 + k + 1) + 1) ≤ 12 * 50331673 := Nat.mul_le_mul (by omega) (by omega)
  refine tri_seq ?_
  refine tri_reg mixed hcx ?_ _ _
  refine asg rfl ?_
  refine ⟨by kernel_rfl, ?_⟩
  refine nx (sl 0 rfl (sl 1 rfl (sl 2 rfl sn))) en ?_
  refine tri_seq ?_
  refine tri_seq ?_
  refine tri_reg mixed hcx ?_ _ _
  refine ca rfl (h := l11_awake) (hn := ?_)
  refine nt rfl _ rfl ?_
  refine ⟨by kernel_rfl, ?_⟩
  refine nx (sl 0 rfl (sl 1 rfl (sl 2 rfl (sl 18 rfl sn)))) en ?_
  refine tri_false rfl rfl ?_
  refine tri_skip ?_
  refine nx (sl 0 rfl (sl 1 rfl (sl 2 rfl sn))) en ?_
  refine tri_seq ?_
  refine tri_seq ?_
  refine tri_reg mixed hcx ?_ _ _
  refine mv rfl ?_
  refine ca rfl (h := hv) (hn := ?_)
  refine cne rfl rfl (decide_eq_false (by omega)) ?_
  refine mv rfl ?_
  refine mv rfl ?_ (hg := gd1)
  refine ln slZs rfl ?_ (hg := gd1)
  refine mv rfl ?_ (hg := gd1)
  refine ln slZss rfl ?_ (hg := gd1)
  refine cne rfl rfl (decide_eq_false (by omega)) ?_ (hg := gd1)
  refine pk rfl rfl ?_
  refine mv rfl ?_
  refine mv rfl ?_ (hg := gd1)
  refine ln slZs rfl ?_ (hg := gd1)
  refine mv rfl ?_ (hg := gd1)
  refine ln slZss rfl ?_ (hg := gd1)
  refine cne rfl rfl (decide_eq_false (by omega)) ?_ (hg := gd1)
  refine pk rfl rfl ?_
  refine ⟨by kernel_rfl, ?_⟩
  refine nx (sl 0 rfl (sl 1 rfl (sl 2 rfl (sl 35 rfl sn)))) en ?_
  refine tri_false rfl rfl ?_
  refine tri_skip ?_
  refine nx (sl 0 rfl (sl 1 rfl (sl 2 rfl sn))) en ?_
  refine tri_seq ?_
  refine tri_reg mixed hcx ?_ _ _
  refine mv rfl ?_
  refine ca rfl (h := ho) (hn := ?_)
  refine mv rfl ?_
  refine ex rfl rfl ?_
  refine ex rfl rfl ?_
  refine nw 515 zeG ?_
  refine sts rfl rfl rfl tyG rfl ?_
  refine asg rfl ?_
  refine ⟨by kernel_rfl, ?_⟩
  refine nx (sl 0 rfl (sl 1 rfl (sl 2 rfl (sl 7 rfl sn)))) (el 515 rfl en) ?_
  refine tri_seq ?_
  refine tri_reg mixed hcx ?_ _ _
  refine ld rfl rfl tyG rfl ?_
  refine ca rfl (h := l11_n (z := 0) (by decide) (by decide)) (hn := ?_)
  refine ca rfl (h := r03_Of (by omega)) (hn := ?_)
  refine bu stTr rfl ?_
  refine nw 614 zeTr ?_
  refine sts rfl rfl rfl tyTr rfl ?_
  refine ⟨by kernel_rfl, ?_⟩
  refine nx (sl 0 rfl (sl 1 rfl (sl 2 rfl (sl 9 rfl sn)))) (el 515 rfl (el 614 rfl en)) ?_
  refine tri_seq ?_
  refine tri_reg mixed hcx ?_ _ _
  refine asg rfl ?_
  refine asg rfl ?_
  refine ⟨by kernel_rfl, ?_⟩
  refine nx (sl 0 rfl (sl 1 rfl (sl 2 rfl (sl 9 rfl (sl 10 rfl (sl 11 rfl sn)))))) (el 515 rfl (el 614 rfl en)) ?_
  refine tri_seq ?_
  refine tri_seq ?_
  refine tri_nil 10 9 32 (cZi k) rfl (by rw [hcx]; kernel_rfl) ?_
  refine tri_nil 11 8 32 (cZi 1048576) rfl (by rw [hcx]; kernel_rfl) ?_
  refine tri_nilb (cQi 1048576) 34 (bl := [T.st [T.l (cZ 1048576) D, T.l (cL (cZ 1048576)) L], T.c (.slice none 0 0), T.Q ((0 : Int) : Rat) (2 + 2)]) (bl' := [T.st [T.l (cZ 1048576) D, T.l (cL (cZ 1048576)) L], T.o 7, T.Q ((0 : Int) : Rat) (2 + 2)]) 614 7 rfl ⟨.inl ⟨rfl, by show 7 ∉ []; decide⟩, .inr ⟨rfl, rfl⟩, .inl ⟨rfl, by show 7 ∉ []; decide⟩, trivial⟩ (by rw [hcx]; kernel_rfl) ?_
  refine tri_reg mixed hcx ?_ _ _
  refine mv rfl ?_
  refine ln slZss rfl ?_
  refine sb (((b.length : Int) - 1)) rfl rfl rfl (by omega) ?_
  refine asg rfl ?_
  refine ⟨by kernel_rfl, ?_⟩
  refine nx (sl 0 rfl (sl 1 rfl (sl 2 rfl (sl 9 rfl (sl 10 rfl (sl 11 rfl (sl 12 rfl sn))))))) (el 515 rfl (el 614 rfl (el 9 rfl (el 8 rfl (el 7 rfl en))))) ?_
  refine tri_block ?_
  refine tri_loop (ι := Nat) (fun i => [(0, T.l (cL (cZi k)) b), (1, T.l (cZi k) x), (2, T.l (cZi k) y), (9, T.p 614 0), (10, T.o 9), (11, T.o 8), (12, T.c (.int .i64 ((b.length : Int) - 1 - (i : Int))))]) (fun i => [(614, some (Ent.box 39 [T.st [T.l (cZ 1048576) D, T.l (cL (cZ 1048576)) L], T.o 7, T.Q ((0 : Int) : Rat) (2 + 2)])), (9, some (Ent.row (cZi k) 32 (rv x i))), (8, some (Ent.row (cZi 1048576) 32 (ofs x y 0))), (7, some (Ent.row (cQi 1048576) 34 (yts y 0)))]) (fun i => b.length - i) (fun i => (i ≤ b.length)) 0 (Nat.zero_le _) (sl 0 rfl (sl 1 rfl (sl 2 rfl (sl 9 rfl (sl 10 rfl (sl 11 rfl (sw 12 rfl (ci (by simp)) sn))))))) (el 614 rfl (el 9 rfl (el 8 rfl (el 7 rfl en)))) ?_
  rintro i hi
  refine tri_sub (sl 0 rfl (sl 1 rfl (sl 2 rfl (sl 9 rfl (sl 10 rfl (sl 11 rfl (sl 12 rfl sn))))))) (el 614 rfl (el 9 rfl (el 8 rfl (el 7 rfl en)))) ?_
  have hrl := @rv_len x i
  refine tri_seq ?_
  refine tri_seq ?_
  refine tri_reg mixed hcx ?_ _ _
  refine mv rfl ?_
  refine cge rfl rfl rfl ?_
  refine ⟨by kernel_rfl, ?_⟩
  refine nx (sl 0 rfl (sl 1 rfl (sl 2 rfl (sl 9 rfl (sl 10 rfl (sl 11 rfl (sl 12 rfl (sl 49 rfl sn)))))))) (el 614 rfl (el 9 rfl (el 8 rfl (el 7 rfl en)))) ?_
  refine tri_if rfl (fun hc => ?_) (fun hc => ?_)
  · have hc2 : i < b.length := by omega
    refine tri_skip ?_
    refine nx (sl 0 rfl (sl 1 rfl (sl 2 rfl (sl 9 rfl (sl 10 rfl (sl 11 rfl (sl 12 rfl sn))))))) (el 614 rfl (el 9 rfl (el 8 rfl (el 7 rfl en)))) ?_
    refine tri_seq ?_
    refine tri_block ?_
    refine tri_reg mixed hcx ?_ _ _
    refine mv rfl ?_
    refine mv rfl ?_
    refine mv rfl ?_
    refine ix rfl rfl slZs (i := b.length - 1 - i) ⟨by omega, by omega⟩ ?_
    refine lf rfl tyZ ?_
    refine bs (c := cZi k) (xs := [x.getD (b.length - 1 - i) 0]) slZs rfl ⟨.refl _, trivial⟩ ?_
    refine ap 1116 rfl rfl rfl slZs (by simp only [List.length_cons, List.length_nil]; omega) (by decide) ?_
    refine asg rfl ?_
    refine ⟨by kernel_rfl, ?_⟩
    refine pn_blk ?_
    refine nx (sl 0 rfl (sl 1 rfl (sl 2 rfl (sl 9 rfl (sl 10 rfl (sl 11 rfl (sl 12 rfl sn))))))) (el 614 rfl (el 8 rfl (el 7 rfl (el 1116 rfl en)))) ?_
    refine tri_reg mixed hcx ?_ _ _
    refine mv rfl ?_
    refine sb (((b.length : Int) - 1 - ((i + 1 : Nat) : Int))) rfl rfl rfl (by omega) ?_
    refine asg rfl ?_
    refine ⟨by kernel_rfl, ?_⟩
    refine pn_sub (sl 0 rfl (sl 1 rfl (sl 2 rfl (sl 9 rfl (sl 10 rfl (sl 11 rfl (sl 12 rfl sn))))))) (el 614 rfl (el 8 rfl (el 7 rfl (el 1116 rfl en)))) ?_
    refine pn_ren 10 9 1116 rfl rfl (by rw [hcx]; kernel_rfl) ?_
    exact pn_back (i + 1) (by first | omega | (dsimp only; omega)) (by omega) (sl 0 rfl (sl 1 rfl (sl 2 rfl (sl 9 rfl (sl 10 rfl (sl 11 rfl (sw 12 rfl (ci (by omega)) sn))))))) (el 614 rfl (ew 9 rfl (.of (by rw [show b.length - 1 - i = x.length - 1 - i by omega, rv_succ])) (el 8 rfl (el 7 rfl en))))
  · refine tri_exit ?_
    repeat (first | refine pn_then ?_ | refine pn_oth (by decide) ?_)
    refine pn_ex ?_
    have hin : i = b.length := by omega
    refine nx (sl 0 rfl (sl 1 rfl (sl 2 rfl (sl 9 rfl (sl 10 rfl (sl 11 rfl sn)))))) (el 614 rfl (el 9 rfl (el 8 rfl (el 7 rfl en)))) ?_
    refine tri_seq ?_
    refine tri_seq ?_
    refine tri_fz 9 rfl ?_
    refine tri_rd 10 9 rfl rfl ?_
    refine tri_as 10 (Z := T.l (cZi 1048576) (rv x b.length)) rfl ((li_mono (show k ≤ 1048576 by omega)).trans (.of (by rw [hin]))) ?_
    refine tri_reg mixed hcx ?_ _ _
    refine asg rfl ?_
    refine ⟨by kernel_rfl, ?_⟩
    refine nx (sl 0 rfl (sl 1 rfl (sl 2 rfl (sl 9 rfl (sl 10 rfl (sl 11 rfl (sl 13 rfl sn))))))) (el 614 rfl (el 8 rfl (el 7 rfl en))) ?_
    refine tri_block ?_
    refine tri_loop (ι := Nat) (fun j => [(0, T.l (cL (cZi k)) b), (1, T.l (cZi k) x), (2, T.l (cZi k) y), (9, T.p 614 0), (10, T.l (cZi 1048576) (rv x b.length)), (11, T.o 8), (13, T.c (.int .i64 (j : Int)))]) (fun j => [(614, some (Ent.box 39 [T.st [T.l (cZ 1048576) D, T.l (cL (cZ 1048576)) L], T.o 7, T.Q ((0 : Int) : Rat) (2 + 2)])), (8, some (Ent.row (cZi 1048576) 32 (ofs x y j))), (7, some (Ent.row (cQi 1048576) 34 (yts y j)))]) (fun j => b.length - j) (fun j => (j ≤ b.length)) 0 (Nat.zero_le _) (sl 0 rfl (sl 1 rfl (sl 2 rfl (sl 9 rfl (sl 10 rfl (sl 11 rfl (sl 13 rfl sn))))))) (el 614 rfl (el 8 rfl (el 7 rfl en))) ?_
    rintro j hj
    refine tri_sub (sl 0 rfl (sl 1 rfl (sl 2 rfl (sl 9 rfl (sl 10 rfl (sl 11 rfl (sl 13 rfl sn))))))) (el 614 rfl (el 8 rfl (el 7 rfl en))) ?_
    have hyl := @yts_len y j
    have hol := @ofs_len x y j
    refine tri_seq ?_
    refine tri_seq ?_
    refine tri_reg mixed hcx ?_ _ _
    refine mv rfl ?_
    refine mv rfl ?_
    refine ln slZss rfl ?_
    refine clt rfl rfl rfl ?_
    refine ⟨by kernel_rfl, ?_⟩
    refine nx (sl 0 rfl (sl 1 rfl (sl 2 rfl (sl 9 rfl (sl 10 rfl (sl 11 rfl (sl 13 rfl (sl 62 rfl sn)))))))) (el 614 rfl (el 8 rfl (el 7 rfl en))) ?_
    refine tri_if rfl (fun hc3 => ?_) (fun hc3 => ?_)
    · have hc4 : j < b.length := by omega
      have hyj := hyz j
      have hxj := hxz j
      refine tri_skip ?_
      refine nx (sl 0 rfl (sl 1 rfl (sl 2 rfl (sl 9 rfl (sl 10 rfl (sl 11 rfl (sl 13 rfl sn))))))) (el 614 rfl (el 8 rfl (el 7 rfl en))) ?_
      refine tri_seq ?_
      refine tri_block ?_
      refine tri_seq ?_
      refine tri_reg mixed hcx ?_ _ _
      refine fa rfl fTrT 2 ?_
      refine ld rfl rfl tyQs rfl ?_
      refine mv rfl ?_
      refine mv rfl ?_
      refine ix rfl rfl slZs ⟨rfl, by omega⟩ ?_
      refine lf rfl tyZ ?_
      refine ca rfl (h := r03_Of (by omega)) (hn := ?_)
      refine bs (c := cQi 1048576) (xs := [(y.getD j 0, 1)]) slQs rfl ⟨qi_row hyj (by omega) (by decide), trivial⟩ ?_
      refine ap 1518 rfl rfl rfl slQs (by simp only [List.length_cons, List.length_nil]; omega) (by decide) ?_
      refine fa rfl fTrT 2 ?_
      refine st rfl rfl rfl tyQs rfl ?_
      refine ⟨by kernel_rfl, ?_⟩
      refine nx (sl 0 rfl (sl 1 rfl (sl 2 rfl (sl 9 rfl (sl 10 rfl (sl 11 rfl (sl 13 rfl sn))))))) (el 614 rfl (el 8 rfl (el 1518 rfl en))) ?_
      refine tri_reg mixed hcx ?_ _ _
      refine mv rfl ?_
      refine mv rfl ?_
      refine mv rfl ?_
      refine ix rfl rfl slZs ⟨rfl, by omega⟩ ?_
      refine lf rfl tyZ ?_
      refine mv rfl ?_
      refine mv rfl ?_
      refine ix rfl rfl slZs ⟨rfl, by omega⟩ ?_
      refine lf rfl tyZ ?_
      refine ca rfl (h := r02_Sub (by omega) (by omega)) (hn := ?_)
      refine bs (c := cZi 1048576) (xs := [x.getD j 0 - y.getD j 0]) slZs rfl ⟨(z_as (Nat.le_trans (zl_sub_max hxj hyj) (by omega))).trans (z_zi _ _), trivial⟩ ?_
      refine ap 1621 rfl rfl rfl slZs (by simp only [List.length_cons, List.length_nil]; omega) (by decide) ?_
      refine asg rfl ?_
      refine ⟨by kernel_rfl, ?_⟩
      refine pn_blk ?_
      refine nx (sl 0 rfl (sl 1 rfl (sl 2 rfl (sl 9 rfl (sl 10 rfl (sl 11 rfl (sl 13 rfl sn))))))) (el 614 rfl (el 1518 rfl (el 1621 rfl en))) ?_
      refine tri_reg mixed hcx ?_ _ _
      refine mv rfl ?_
      refine ad (((j + 1 : Nat) : Int)) rfl rfl rfl (by omega) ?_
      refine asg rfl ?_
      refine ⟨by kernel_rfl, ?_⟩
      refine pn_sub (sl 0 rfl (sl 1 rfl (sl 2 rfl (sl 9 rfl (sl 10 rfl (sl 11 rfl (sl 13 rfl sn))))))) (el 614 rfl (el 1518 rfl (el 1621 rfl en))) ?_
      refine pn_ren 11 8 1621 rfl rfl (by rw [hcx]; kernel_rfl) ?_
      refine pn_sub (sl 0 rfl (sl 1 rfl (sl 2 rfl (sl 9 rfl (sl 10 rfl (sl 11 rfl (sl 13 rfl sn))))))) (el 614 rfl (el 1518 rfl (el 8 rfl en))) ?_
      refine pn_renb (bl := [T.st [T.l (cZ 1048576) D, T.l (cL (cZ 1048576)) L], T.o 1518, T.Q ((0 : Int) : Rat) (2 + 2)]) (bl' := [T.st [T.l (cZ 1048576) D, T.l (cL (cZ 1048576)) L], T.o 7, T.Q ((0 : Int) : Rat) (2 + 2)]) 614 7 1518 rfl rfl ⟨.inl ⟨rfl, by show 7 ∉ []; decide⟩, .inr ⟨rfl, rfl⟩, .inl ⟨rfl, by show 7 ∉ []; decide⟩, trivial⟩ (by rw [hcx]; kernel_rfl) rfl ?_
      exact pn_back (j + 1) (by first | omega | (dsimp only; omega)) (by omega) (sl 0 rfl (sl 1 rfl (sl 2 rfl (sl 9 rfl (sl 10 rfl (sl 11 rfl (sl 13 rfl sn))))))) (el 614 rfl (ew 8 rfl (.of (by rw [ofs_succ])) (ew 7 rfl (.of (by rw [yts_succ])) en)))
    · refine tri_exit ?_
      repeat (first | refine pn_then ?_ | refine pn_oth (by decide) ?_)
      refine pn_ex ?_
      have hjn : j = b.length := by omega
      refine nx (sl 0 rfl (sl 9 rfl (sl 10 rfl (sl 11 rfl sn)))) (el 614 rfl (el 8 rfl (el 7 rfl en))) ?_
      refine tri_seq ?_
      refine tri_fz 8 rfl ?_
      refine tri_rd 11 8 rfl rfl ?_
      refine tri_as 11 (Z := T.l (cZi 1048576) (ofs x y b.length)) rfl (.of (by rw [hjn])) ?_
      refine tri_fz 7 rfl ?_
      refine tri_rdb (bl := [T.st [T.l (cZ 1048576) D, T.l (cL (cZ 1048576)) L], T.o 7, T.Q ((0 : Int) : Rat) (2 + 2)]) (bl' := [T.st [T.l (cZ 1048576) D, T.l (cL (cZ 1048576)) L], T.l (cQi 1048576) (yts y j), T.Q ((0 : Int) : Rat) (2 + 2)]) 614 7 rfl rfl ⟨.inl rfl, .inr ⟨rfl, rfl⟩, .inl rfl, trivial⟩ ?_
      refine tri_sub (sl 0 rfl (sl 9 rfl (sl 10 rfl (sl 11 rfl sn)))) (ew 614 rfl (box_eqT (l' := [T.st [T.l (cZ 1048576) D, T.l (cL (cZ 1048576)) L], T.l (cQi 1048576) (yts y b.length), T.Q ((0 : Int) : Rat) (2 + 2)]) (by rw [hjn])) en) ?_
      refine tri_reg mixed hcx ?_ _ _
      refine ld rfl rfl tyTr rfl ?_
      refine mv rfl ?_
      refine ca rfl (h := hP) (hn := ?_)
      refine mv rfl ?_
      refine ex rfl rfl ?_
      refine ex rfl rfl ?_
      refine nw 1716 zeQ ?_
      refine st rfl rfl rfl tyQ rfl ?_
      refine asg rfl ?_
      refine ⟨by kernel_rfl, ?_⟩
      refine nx (sl 0 rfl (sl 11 rfl (sl 14 rfl (sl 15 rfl sn)))) (el 614 rfl (el 1716 rfl en)) ?_
      refine tri_seq ?_
      refine tri_reg mixed hcx ?_ _ _
      refine mv rfl ?_
      refine bs (c := cL (cZi 1048576)) (xs := [ofs x y b.length]) slZss rfl ⟨.refl _, trivial⟩ ?_
      refine mv rfl ?_
      refine ca rfl (h := r07_Product (fn_out (r05_Product (a := [ofs x y b.length]) (kx := 1048576) (kb := k) (m := m) (nb := b.length) h0 (by show 1 ≤ _; omega) (by omega) hm (by omega) (fun i hi => by match i, hi with | 0, _ => exact ⟨by show (ofs x y b.length).length ≤ _; rw [ofs_len]; omega, by show (ofs x y b.length).length ≤ _; rw [ofs_len]; omega⟩) (by decide) (by omega) (by omega)) (.of (by rw [show [ofs x y b.length].length = 1 from rfl, hpr])))) (hn := ?_)
      refine ix rfl rfl slZss ⟨(rfl : _ = ((0 : Nat) : Int)), by show 0 < 1; omega⟩ ?_
      refine lf rfl tyZs ?_
      refine asg rfl ?_
      refine ⟨by kernel_rfl, ?_⟩
      refine nx (sl 14 rfl (sl 15 rfl (sl 16 rfl sn))) (el 614 rfl (el 1716 rfl en)) ?_
      refine tri_seq ?_
      refine tri_as 16 (Z := T.l (cZi (b.length * (1048576 + k + 1))) (vU b (ofs x y b.length) m b.length)) rfl (tl_le (fun z => z_zi z _) _) ?_
      refine tri_reg mixed hcx ?_ _ _
      refine mv rfl ?_
      refine ceq rfl rfl (decide_eq_true (by omega)) ?_
      refine mv rfl ?_
      refine ld rfl rfl tyQ rfl ?_ (hg := gd1)
      refine mv rfl ?_ (hg := gd1)
      refine mv rfl ?_ (hg := gd1)
      refine ca rfl (h := fn_out (r05_Dot (xs := (vU b (ofs x y b.length) m b.length)) (ys := (vU b (ofs x y b.length) m b.length)) (k := b.length * (1048576 + k + 1)) (l := b.length * (1048576 + k + 1)) rfl (by omega) (by omega) (by omega) (by omega)) (z_eqz (by rw [hvl]) (Nat.le_refl _))) (hn := ?_) (hg := gd1)
      refine ca rfl (h := r03_Of (by omega)) (hn := ?_) (hg := gd1)
      refine ca rfl (h := l11_same (by omega)) (hn := ?_) (hg := gd1)
      refine pk rfl rfl ?_
      refine asg rfl ?_
      refine ⟨by kernel_rfl, ?_⟩
      refine nx (sl 6 rfl sn) (el 614 rfl (el 1716 rfl en)) ?_
      refine tri_ret ?_
      repeat (first | refine pn_thenr ?_ | refine pn_blkr ?_)
      exact ret1 hcx rfl (rv_tmp rfl) (.refl _) en

/-- The law, of all rows and numbers. -/
theorem t_lens {b : List (List Int)} {x y : List Int} {k : Nat} (hk : k ≤ 1048574) (hrr : ∀ i, i < b.length → (b.getD i []).length ≤ 1048576) (hbl : b.length ≤ 1048576) (hxl : x.length ≤ 1048576) (hyl : y.length ≤ 1048576) : Fn Tryz.prog 3 [T.l (cL (cZi k)) b, T.l (cZi k) x, T.l (cZi k) y] [] [] [] (T.c (.bool true)) := by
  have hk' : k ≤ 1048576 := by omega
  obtain ⟨r, hR⟩ := ShR.ex b true
  by_cases hr : r = 0
  · subst hr
    obtain ⟨h0, hb, hm, hm12, hbits⟩ := shr_basis hR
    have hS := val_S hbits (fun i hi => by rw [hm i hi]; exact hm12)
    cases h : bld b b.length with
    | none => exact t_len_err hk' hbl hxl hyl (by decide) (r05_Valid_no (K := 839679) (bld_none h) h0 hb hm hk' hm12 hR hS (by decide) (by decide) (by decide))
    | some p =>
      obtain ⟨D, L⟩ := p
      have hI := bld_DI h
      have hT := data_T hR h
      have hG := hI.good h0
      have hv := r05_Valid_ok (K := 839679) hI.ok h0 hb hm hk' hm12 hR hS (by decide) (by decide) (by decide)
      by_cases hx : x.length = b.length
      · by_cases hy : y.length = b.length
        · exact t_len_ok hk hbl hxl hyl hv (r05_Of_ok (r05_check_ok_t (K := 839679) hI.ok h0 hb hm hk' hm12 hR hS (by decide) (by decide) (by decide)) (r05_data (K := 839679) hI hb (by decide) (fun k hk => hG.pos (by rw [hI.lL]; exact hk)) hG.2.2.1 hT.zD (fun i j => hT.zL i j))) hI hT hm hm12 hx hy
        · exact t_len_y hk' hbl hxl hyl hv hx hy
      · exact t_len_x hk' hbl hxl hyl hv hx
  · exact t_len_err hk' hbl hxl hyl hr (r05_Valid_err hk' hrr hbl hR hr)
end Go.Proofs.YtekghdfbhbhigaaGreat.V
