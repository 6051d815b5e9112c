/- The data of rows, and what refuses them. -/
import Derived.Test.YtffnfbhhjjbjbaaM04
set_option linter.unusedVariables false
set_option linter.unusedSimpArgs false
set_option maxRecDepth 100000
namespace Go.Proofs.Ytffnfbhhjjbjbaa.V
open Go.RowKit Mt Nml
theorem g_built_no {b : List (List Int)} {kb m S K : Nat} (h : bld b b.length = none) (hbl : b.length ≤ 12) (hm : ∀ i, i < b.length → (b.getD i []).length = m) (hmm : m ≤ 1048576) (hkb : kb ≤ 1048576) (hS : ∀ i j, i < b.length → j ≤ i → zl (dotU (b.getD i []) (b.getD j []) (b.getD i []).length) ≤ S) (hK1 : bd S 12 ≤ K) (hK2 : K ≤ 137438953472) (hK3 : 2 ≤ K) : Fn Try.prog 84 [T.l (cL (cZi kb)) b] [] [] [] (T.tup [T.st [T.c (.slice none 0 0), T.c (.slice none 0 0)], T.c (.bool false)]) := by
  refine fn_of Try.func84 rfl (by show 1 ≤ 114; decide) fun cx hcx => ?_
  refine tri_sub (sl 0 rfl sn) en ?_
  have hmb : ∀ i, i < b.length → zl (dotU (b.getD i []) (b.getD i []) (b.getD i []).length) ≤ S := fun i hi => hS i i hi (Nat.le_refl _)
  have hSK : S ≤ K := Nat.le_trans (by have := bd_mono (S := S) (Nat.zero_le 12); rwa [bd_zero] at this) hK1
  refine tri_seq ?_
  refine tri_reg mixed hcx ?_ _ _
  refine nw 10 zeG ?_
  refine asg rfl ?_
  refine ⟨by kernel_rfl, ?_⟩
  refine nx (sl 0 rfl (sl 2 rfl sn)) (el 10 rfl en) ?_
  refine tri_seq ?_
  refine tri_reg mixed hcx ?_ _ _
  refine ca rfl (h := zi_Of (by omega) (by omega)) (hn := ?_)
  refine bso (c := cZ K) (xs := [1]) 111 slZs rfl ⟨z_up (by omega), trivial⟩ ?_
  refine bu stG rfl ?_
  refine nw 113 zeG ?_
  refine sts rfl rfl rfl tyG rfl ?_
  refine ⟨by kernel_rfl, ?_⟩
  refine nx (sl 0 rfl (sl 2 rfl (sl 4 rfl sn))) (el 10 rfl (el 111 rfl (el 113 rfl (el 113 rfl en)))) ?_
  refine tri_seq ?_
  refine tri_seq ?_
  refine tri_nilb (cL (cZ K)) 22 (bl := [T.o 111, T.c (.slice none 0 0)]) (bl' := [T.o 111, T.o 9]) 113 9 rfl ⟨.inl ⟨rfl, by show 9 ∉ [111]; decide⟩, .inr ⟨rfl, rfl⟩, trivial⟩ (by rw [hcx]; kernel_rfl) ?_
  refine tri_reg mixed hcx ?_ _ _
  refine mv rfl ?_
  refine ln slZss rfl ?_
  refine mv rfl ?_
  refine ⟨by kernel_rfl, ?_⟩
  refine nx (sl 0 rfl (sl 2 rfl (sl 4 rfl (sl 16 rfl (sl 17 rfl sn))))) (el 10 rfl (el 111 rfl (el 113 rfl (el 113 rfl (el 9 rfl en))))) ?_
  refine tri_block ?_
  refine tri_loop (ι := Nat × List Int × List (List Int)) (fun (i, D, L) => [(0, T.l (cL (cZi kb)) b), (2, T.p 10 0), (4, T.p 113 0), (16, T.c (.int .i64 (b.length : Int))), (17, T.c (.int .i64 (i : Int)))]) (fun (i, D, L) => [(10, some (Ent.box 25 [T.c (.slice none 0 0), T.c (.slice none 0 0)])), (111, some (Ent.row (cZ K) 29 (D))), (9, some (Ent.row (cL (cZ K)) 22 (L))), (113, some (Ent.box 25 [T.o 111, T.o 9]))]) (fun (i, D, L) => b.length - i) (fun (i, D, L) => (i ≤ b.length) ∧ (bld b i = some (D, L)) ∧ (BI S i D L)) (0, [1], []) ⟨Nat.zero_le _, rfl, BI.zero S⟩ (sl 0 rfl (sl 2 rfl (sl 4 rfl (sl 16 rfl (sl 17 rfl sn))))) (el 10 rfl (el 111 rfl (el 9 rfl (el 113 rfl en)))) ?_
  rintro ⟨i, D, L⟩ ⟨hi, hb, hB⟩
  refine tri_sub (sl 0 rfl (sl 2 rfl (sl 4 rfl (sl 16 rfl (sl 17 rfl sn))))) (el 10 rfl (el 111 rfl (el 9 rfl (el 113 rfl en)))) ?_
  refine tri_seq ?_
  refine tri_reg mixed hcx ?_ _ _
  refine clt rfl rfl rfl ?_
  refine ⟨by kernel_rfl, ?_⟩
  refine nx (sl 0 rfl (sl 2 rfl (sl 4 rfl (sl 16 rfl (sl 17 rfl (sl 18 rfl sn)))))) (el 10 rfl (el 111 rfl (el 9 rfl (el 113 rfl en)))) ?_
  refine tri_seq ?_
  refine tri_if rfl (fun hc => ?_) (fun hc => ?_)
  · have hmi : (b.getD i (cL (cZi kb)).dflt).length = m := hm i (by omega)
    have hDl := hB.hD; have hLl := hB.hL
    refine tri_skip ?_
    refine nx (sl 0 rfl (sl 2 rfl (sl 4 rfl (sl 16 rfl (sl 17 rfl sn))))) (el 10 rfl (el 111 rfl (el 9 rfl (el 113 rfl en)))) ?_
    refine tri_seq ?_
    refine tri_block ?_
    refine tri_seq ?_
    refine tri_reg mixed hcx ?_ _ _
    refine mv rfl ?_
    refine asg rfl ?_
    refine ⟨by kernel_rfl, ?_⟩
    refine nx (sl 0 rfl (sl 2 rfl (sl 4 rfl (sl 5 rfl (sl 16 rfl (sl 17 rfl sn)))))) (el 10 rfl (el 111 rfl (el 9 rfl (el 113 rfl en)))) ?_
    refine tri_seq ?_
    refine tri_reg mixed hcx ?_ _ _
    refine mv rfl ?_
    refine ad (((i + 1 : Nat) : Int)) rfl rfl rfl (by omega) ?_
    refine mk0 (c := (cZ K)) (n := i + 1) 512 slZs rfl rfl (by omega) (by decide) ?_
    refine asg rfl ?_
    refine ⟨by kernel_rfl, ?_⟩
    refine nx (sl 0 rfl (sl 2 rfl (sl 4 rfl (sl 5 rfl (sl 6 rfl (sl 16 rfl (sl 17 rfl sn))))))) (el 10 rfl (el 111 rfl (el 9 rfl (el 113 rfl (el 512 rfl en))))) ?_
    refine tri_seq ?_
    refine tri_seq ?_
    refine tri_reg mixed hcx ?_ _ _
    refine asg rfl ?_
    refine ⟨by kernel_rfl, ?_⟩
    refine nx (sl 0 rfl (sl 2 rfl (sl 4 rfl (sl 5 rfl (sl 6 rfl (sl 7 rfl (sl 16 rfl (sl 17 rfl sn)))))))) (el 10 rfl (el 111 rfl (el 9 rfl (el 113 rfl (el 512 rfl en))))) ?_
    refine tri_block ?_
    refine tri_loop (ι := Nat) (fun j => [(0, T.l (cL (cZi kb)) b), (2, T.p 10 0), (4, T.p 113 0), (5, T.c (.int .i64 (i : Int))), (6, T.o 512), (7, T.c (.int .i64 (j : Int))), (16, T.c (.int .i64 (b.length : Int))), (17, T.c (.int .i64 (i : Int)))]) (fun j => [(10, some (Ent.box 25 [T.c (.slice none 0 0), T.c (.slice none 0 0)])), (111, some (Ent.row (cZ K) 29 (D))), (9, some (Ent.row (cL (cZ K)) 22 (L))), (113, some (Ent.box 25 [T.o 111, T.o 9])), (512, some (Ent.row (cZ K) 29 ((rowU b D L i j))))]) (fun j => i + 1 - j) (fun j => (j ≤ i + 1) ∧ (RI S j (rowU b D L i j))) 0 ⟨Nat.zero_le _, RI.zero S⟩ (sl 0 rfl (sl 2 rfl (sl 4 rfl (sl 5 rfl (sl 6 rfl (sl 7 rfl (sl 16 rfl (sl 17 rfl sn)))))))) (el 10 rfl (el 111 rfl (el 9 rfl (el 113 rfl (el 512 rfl en))))) ?_
    rintro j ⟨hj, hR⟩
    refine tri_sub (sl 0 rfl (sl 2 rfl (sl 4 rfl (sl 5 rfl (sl 6 rfl (sl 7 rfl (sl 16 rfl (sl 17 rfl sn)))))))) (el 10 rfl (el 111 rfl (el 9 rfl (el 113 rfl (el 512 rfl en))))) ?_
    refine tri_seq ?_
    refine tri_seq ?_
    refine tri_reg mixed hcx ?_ _ _
    refine mv rfl ?_
    refine mv rfl ?_
    refine cle rfl rfl rfl ?_
    refine ⟨by kernel_rfl, ?_⟩
    refine nx (sl 0 rfl (sl 2 rfl (sl 4 rfl (sl 5 rfl (sl 6 rfl (sl 7 rfl (sl 16 rfl (sl 17 rfl (sl 25 rfl sn))))))))) (el 10 rfl (el 111 rfl (el 9 rfl (el 113 rfl (el 512 rfl en))))) ?_
    refine tri_if rfl (fun hd => ?_) (fun hd => ?_)
    · have hmj : (b.getD j (cL (cZi kb)).dflt).length = m := hm j (by omega)
      have hRl := hR.len
      refine tri_skip ?_
      refine nx (sl 0 rfl (sl 2 rfl (sl 4 rfl (sl 5 rfl (sl 6 rfl (sl 7 rfl (sl 16 rfl (sl 17 rfl sn)))))))) (el 10 rfl (el 111 rfl (el 9 rfl (el 113 rfl (el 512 rfl en))))) ?_
      refine tri_seq ?_
      refine tri_block ?_
      refine tri_seq ?_
      refine tri_reg mixed hcx ?_ _ _
      refine mv rfl ?_
      refine mv rfl ?_
      refine ix rfl rfl slZss ⟨rfl, by omega⟩ ?_
      refine lf rfl tyZs ?_
      refine mv rfl ?_
      refine mv rfl ?_
      refine ix rfl rfl slZss ⟨rfl, by omega⟩ ?_
      refine lf rfl tyZs ?_
      refine ca rfl (h := mat_Dot (by omega) (by omega) (by omega) (by omega)) (hn := ?_)
      refine mv rfl ?_
      refine ex rfl rfl ?_
      refine ex rfl rfl ?_
      refine nw 922 zeZ ?_
      refine st rfl rfl rfl tyZ rfl ?_
      refine asg rfl ?_
      refine ⟨by kernel_rfl, ?_⟩
      refine nx (sl 0 rfl (sl 2 rfl (sl 4 rfl (sl 5 rfl (sl 6 rfl (sl 7 rfl (sl 8 rfl (sl 16 rfl (sl 17 rfl sn))))))))) (el 10 rfl (el 111 rfl (el 9 rfl (el 113 rfl (el 512 rfl (el 922 rfl en)))))) ?_
      refine tri_seq ?_
      refine tri_seq ?_
      refine tri_bz 922 rfl fun hz0 => ?_
      have hzS : zl (dotU (b.getD i []) (b.getD j []) (b.getD i []).length) ≤ S := hS i j (by omega) (by omega)
      refine tri_reg mixed hcx ?_ _ _
      refine asg rfl ?_
      refine ⟨by kernel_rfl, ?_⟩
      refine nx (sl 0 rfl (sl 2 rfl (sl 4 rfl (sl 5 rfl (sl 6 rfl (sl 7 rfl (sl 8 rfl (sl 10 rfl (sl 16 rfl (sl 17 rfl sn)))))))))) (el 10 rfl (el 111 rfl (el 9 rfl (el 113 rfl (el 512 rfl (el 922 rfl en)))))) ?_
      refine tri_block ?_
      refine tri_loop (ι := Nat) (fun q => [(0, T.l (cL (cZi kb)) b), (2, T.p 10 0), (4, T.p 113 0), (5, T.c (.int .i64 (i : Int))), (6, T.o 512), (7, T.c (.int .i64 (j : Int))), (8, T.p 922 0), (10, T.c (.int .i64 (q : Int))), (16, T.c (.int .i64 (b.length : Int))), (17, T.c (.int .i64 (i : Int)))]) (fun q => [(10, some (Ent.box 25 [T.c (.slice none 0 0), T.c (.slice none 0 0)])), (111, some (Ent.row (cZ K) 29 (D))), (9, some (Ent.row (cL (cZ K)) 22 (L))), (113, some (Ent.box 25 [T.o 111, T.o 9])), (512, some (Ent.row (cZ K) 29 ((rowU b D L i j)))), (922, some (Ent.box 29 [T.Z (redU D (pickL L (rowU b D L i j) i j) (rowU b D L i j) (dotU (b.getD i []) (b.getD j []) (b.getD i []).length) q) K]))]) (fun q => j - q) (fun q => (q ≤ j)) 0 (Nat.zero_le _) (sl 0 rfl (sl 2 rfl (sl 4 rfl (sl 5 rfl (sl 6 rfl (sl 7 rfl (sl 8 rfl (sl 10 rfl (sl 16 rfl (sl 17 rfl sn)))))))))) (el 10 rfl (el 111 rfl (el 9 rfl (el 113 rfl (el 512 rfl (ew 922 rfl (box_pack1 (show (T.Z _ _).le (T.Z (dotU (b.getD i []) (b.getD j []) (b.getD i []).length) K) from z_as (Nat.le_trans hzS hSK))) en)))))) ?_
      rintro q hq
      refine tri_sub (sl 0 rfl (sl 2 rfl (sl 4 rfl (sl 5 rfl (sl 6 rfl (sl 7 rfl (sl 8 rfl (sl 10 rfl (sl 16 rfl (sl 17 rfl sn)))))))))) (el 10 rfl (el 111 rfl (el 9 rfl (el 113 rfl (el 512 rfl (el 922 rfl en)))))) ?_
      refine tri_seq ?_
      refine tri_seq ?_
      refine tri_reg mixed hcx ?_ _ _
      refine mv rfl ?_
      refine mv rfl ?_
      refine clt rfl rfl rfl ?_
      refine ⟨by kernel_rfl, ?_⟩
      refine nx (sl 0 rfl (sl 2 rfl (sl 4 rfl (sl 5 rfl (sl 6 rfl (sl 7 rfl (sl 8 rfl (sl 10 rfl (sl 16 rfl (sl 17 rfl (sl 42 rfl sn))))))))))) (el 10 rfl (el 111 rfl (el 9 rfl (el 113 rfl (el 512 rfl (el 922 rfl en)))))) ?_
      refine tri_if rfl (fun he => ?_) (fun he => ?_)
      · have hDq : D.getD q (cZ K).dflt ≠ 0 := Int.ne_of_gt (hB.pos q (by omega))
        refine tri_skip ?_
        refine nx (sl 0 rfl (sl 2 rfl (sl 4 rfl (sl 5 rfl (sl 6 rfl (sl 7 rfl (sl 8 rfl (sl 10 rfl (sl 16 rfl (sl 17 rfl sn)))))))))) (el 10 rfl (el 111 rfl (el 9 rfl (el 113 rfl (el 512 rfl (el 922 rfl en)))))) ?_
        refine tri_seq ?_
        refine tri_block ?_
        refine tri_seq ?_
        refine tri_reg mixed hcx ?_ _ _
        refine mv rfl ?_
        refine asg rfl ?_
        refine ⟨by kernel_rfl, ?_⟩
        refine nx (sl 0 rfl (sl 2 rfl (sl 4 rfl (sl 5 rfl (sl 6 rfl (sl 7 rfl (sl 8 rfl (sl 10 rfl (sl 11 rfl (sl 16 rfl (sl 17 rfl sn))))))))))) (el 10 rfl (el 111 rfl (el 9 rfl (el 113 rfl (el 512 rfl (el 922 rfl en)))))) ?_
        refine tri_seq ?_
        refine tri_seq ?_
        refine tri_reg mixed hcx ?_ _ _
        refine mv rfl ?_
        refine mv rfl ?_
        refine clt rfl rfl rfl ?_
        refine ⟨by kernel_rfl, ?_⟩
        refine nx (sl 0 rfl (sl 2 rfl (sl 4 rfl (sl 5 rfl (sl 6 rfl (sl 7 rfl (sl 8 rfl (sl 10 rfl (sl 11 rfl (sl 16 rfl (sl 17 rfl (sl 48 rfl sn)))))))))))) (el 10 rfl (el 111 rfl (el 9 rfl (el 113 rfl (el 512 rfl (el 922 rfl en)))))) ?_
        refine tri_if rfl (fun hf => ?_) (fun hf => ?_)
        · have hLj : (L.getD j (cL (cZ K)).dflt).length = j := hB.lL j (by omega)
          refine tri_reg mixed hcx ?_ _ _
          refine fa rfl fL 1 ?_
          refine ld rfl rfl tyZss rfl ?_
          refine mv rfl ?_
          refine ixo rfl rfl rfl slZss ⟨rfl, by omega⟩ ?_
          refine lo _ rfl rfl tyZs ⟨rfl, rfl, by omega⟩ ?_
          refine asg rfl ?_
          refine ⟨by kernel_rfl, ?_⟩
          refine nx (sl 0 rfl (sl 2 rfl (sl 4 rfl (sl 5 rfl (sl 6 rfl (sl 7 rfl (sl 8 rfl (sl 10 rfl (sl 11 rfl (sl 16 rfl (sl 17 rfl sn))))))))))) (el 10 rfl (el 111 rfl (el 9 rfl (el 113 rfl (el 512 rfl (el 922 rfl en)))))) ?_
          refine tri_seq ?_
          refine tri_reg mixed hcx ?_ _ _
          refine fa rfl fD 0 ?_
          refine ld rfl rfl tyZs rfl ?_
          refine mv rfl ?_
          refine ad (((q + 1 : Nat) : Int)) rfl rfl rfl (by omega) ?_
          refine ixo rfl rfl rfl slZs ⟨rfl, by omega⟩ ?_
          refine lo _ rfl rfl tyZ ⟨rfl, rfl, by omega⟩ ?_
          refine ld rfl rfl tyZ rfl ?_
          refine ca rfl (h := zi_Mul (by omega) (by omega)) (hn := ?_)
          refine mv rfl ?_
          refine mv rfl ?_
          refine ixo rfl rfl rfl slZs ⟨rfl, by omega⟩ ?_
          refine lo _ rfl rfl tyZ ⟨rfl, rfl, by omega⟩ ?_
          refine mv rfl ?_
          refine mv rfl ?_
          refine ix rfl rfl slZs ⟨rfl, by omega⟩ ?_
          refine lf rfl tyZ ?_
          refine ca rfl (h := zi_Mul (by omega) (by omega)) (hn := ?_)
          refine ca rfl (h := zi_Sub (by omega) (by omega)) (hn := ?_)
          refine st rfl rfl rfl tyZ rfl ?_
          refine ⟨by kernel_rfl, ?_⟩
          refine nx (sl 0 rfl (sl 2 rfl (sl 4 rfl (sl 5 rfl (sl 6 rfl (sl 7 rfl (sl 8 rfl (sl 10 rfl (sl 16 rfl (sl 17 rfl sn)))))))))) (el 10 rfl (el 111 rfl (el 9 rfl (el 113 rfl (el 512 rfl (el 922 rfl en)))))) ?_
          refine tri_reg mixed hcx ?_ _ _
          refine ld rfl rfl tyZ rfl ?_
          refine fa rfl fD 0 ?_
          refine ld rfl rfl tyZs rfl ?_
          refine mv rfl ?_
          refine ixo rfl rfl rfl slZs ⟨rfl, by omega⟩ ?_
          refine lo _ rfl rfl tyZ ⟨rfl, rfl, by omega⟩ ?_
          refine ca rfl (h := zi_Floor (by assumption) (by omega) (by omega)) (hn := ?_)
          refine mv rfl ?_
          refine ex rfl rfl ?_
          refine ex rfl rfl ?_
          refine ex rfl rfl ?_
          refine st rfl rfl rfl tyZ rfl ?_
          refine ⟨by kernel_rfl, ?_⟩
          refine pn_blk ?_
          refine nx (sl 0 rfl (sl 2 rfl (sl 4 rfl (sl 5 rfl (sl 6 rfl (sl 7 rfl (sl 8 rfl (sl 10 rfl (sl 16 rfl (sl 17 rfl sn)))))))))) (el 10 rfl (el 111 rfl (el 9 rfl (el 113 rfl (el 512 rfl (el 922 rfl en)))))) ?_
          refine tri_reg mixed hcx ?_ _ _
          refine mv rfl ?_
          refine ad (((q + 1 : Nat) : Int)) rfl rfl rfl (by omega) ?_
          refine asg rfl ?_
          refine ⟨by kernel_rfl, ?_⟩
          exact pn_back (q + 1) (by first | omega | (dsimp only; omega)) (by omega) (sl 0 rfl (sl 2 rfl (sl 4 rfl (sl 5 rfl (sl 6 rfl (sl 7 rfl (sl 8 rfl (sl 10 rfl (sl 16 rfl (sl 17 rfl sn)))))))))) (el 10 rfl (el 111 rfl (el 9 rfl (el 113 rfl (el 512 rfl (ew 922 rfl (box_pack1 (z_to (by show _ = stepU D (pickL L (rowU b D L i j) i j) (rowU b D L i j) q (redU D (pickL L (rowU b D L i j) i j) (rowU b D L i j) (dotU (b.getD i []) (b.getD j []) (b.getD i []).length) q); unfold stepU; rw [show pickL L (rowU b D L i j) i j = L.getD j [] from if_pos (show j < i by omega)]; rfl) (Nat.le_trans (red_bd (k := q + 1) hB hR (by omega) hzS (by omega)) (Nat.le_trans (bd_mono (by omega)) hK1)))) en))))))
        · refine tri_skip ?_
          refine nx (sl 0 rfl (sl 2 rfl (sl 4 rfl (sl 5 rfl (sl 6 rfl (sl 7 rfl (sl 8 rfl (sl 10 rfl (sl 11 rfl (sl 16 rfl (sl 17 rfl sn))))))))))) (el 10 rfl (el 111 rfl (el 9 rfl (el 113 rfl (el 512 rfl (el 922 rfl en)))))) ?_
          refine tri_seq ?_
          refine tri_reg mixed hcx ?_ _ _
          refine fa rfl fD 0 ?_
          refine ld rfl rfl tyZs rfl ?_
          refine mv rfl ?_
          refine ad (((q + 1 : Nat) : Int)) rfl rfl rfl (by omega) ?_
          refine ixo rfl rfl rfl slZs ⟨rfl, by omega⟩ ?_
          refine lo _ rfl rfl tyZ ⟨rfl, rfl, by omega⟩ ?_
          refine ld rfl rfl tyZ rfl ?_
          refine ca rfl (h := zi_Mul (by omega) (by omega)) (hn := ?_)
          refine mv rfl ?_
          refine mv rfl ?_
          refine ixo rfl rfl rfl slZs ⟨rfl, by omega⟩ ?_
          refine lo _ rfl rfl tyZ ⟨rfl, rfl, by omega⟩ ?_
          refine mv rfl ?_
          refine mv rfl ?_
          refine ixo rfl rfl rfl slZs ⟨rfl, by omega⟩ ?_
          refine lo _ rfl rfl tyZ ⟨rfl, rfl, by omega⟩ ?_
          refine ca rfl (h := zi_Mul (by omega) (by omega)) (hn := ?_)
          refine ca rfl (h := zi_Sub (by omega) (by omega)) (hn := ?_)
          refine st rfl rfl rfl tyZ rfl ?_
          refine ⟨by kernel_rfl, ?_⟩
          refine nx (sl 0 rfl (sl 2 rfl (sl 4 rfl (sl 5 rfl (sl 6 rfl (sl 7 rfl (sl 8 rfl (sl 10 rfl (sl 16 rfl (sl 17 rfl sn)))))))))) (el 10 rfl (el 111 rfl (el 9 rfl (el 113 rfl (el 512 rfl (el 922 rfl en)))))) ?_
          refine tri_reg mixed hcx ?_ _ _
          refine ld rfl rfl tyZ rfl ?_
          refine fa rfl fD 0 ?_
          refine ld rfl rfl tyZs rfl ?_
          refine mv rfl ?_
          refine ixo rfl rfl rfl slZs ⟨rfl, by omega⟩ ?_
          refine lo _ rfl rfl tyZ ⟨rfl, rfl, by omega⟩ ?_
          refine ca rfl (h := zi_Floor (by assumption) (by omega) (by omega)) (hn := ?_)
          refine mv rfl ?_
          refine ex rfl rfl ?_
          refine ex rfl rfl ?_
          refine ex rfl rfl ?_
          refine st rfl rfl rfl tyZ rfl ?_
          refine ⟨by kernel_rfl, ?_⟩
          refine pn_blk ?_
          refine nx (sl 0 rfl (sl 2 rfl (sl 4 rfl (sl 5 rfl (sl 6 rfl (sl 7 rfl (sl 8 rfl (sl 10 rfl (sl 16 rfl (sl 17 rfl sn)))))))))) (el 10 rfl (el 111 rfl (el 9 rfl (el 113 rfl (el 512 rfl (el 922 rfl en)))))) ?_
          refine tri_reg mixed hcx ?_ _ _
          refine mv rfl ?_
          refine ad (((q + 1 : Nat) : Int)) rfl rfl rfl (by omega) ?_
          refine asg rfl ?_
          refine ⟨by kernel_rfl, ?_⟩
          exact pn_back (q + 1) (by first | omega | (dsimp only; omega)) (by omega) (sl 0 rfl (sl 2 rfl (sl 4 rfl (sl 5 rfl (sl 6 rfl (sl 7 rfl (sl 8 rfl (sl 10 rfl (sl 16 rfl (sl 17 rfl sn)))))))))) (el 10 rfl (el 111 rfl (el 9 rfl (el 113 rfl (el 512 rfl (ew 922 rfl (box_pack1 (z_to (by show _ = stepU D (pickL L (rowU b D L i j) i j) (rowU b D L i j) q (redU D (pickL L (rowU b D L i j) i j) (rowU b D L i j) (dotU (b.getD i []) (b.getD j []) (b.getD i []).length) q); unfold stepU; rw [show pickL L (rowU b D L i j) i j = (rowU b D L i j) from if_neg (show ¬ j < i by omega)]; rfl) (Nat.le_trans (red_bd (k := q + 1) hB hR (by omega) hzS (by omega)) (Nat.le_trans (bd_mono (by omega)) hK1)))) en))))))
      · refine tri_exit ?_
        repeat (first | refine pn_then ?_ | refine pn_oth (by decide) ?_)
        refine pn_ex ?_
        have hqj : q = j := by omega
        refine nx (sl 0 rfl (sl 2 rfl (sl 4 rfl (sl 5 rfl (sl 6 rfl (sl 7 rfl (sl 8 rfl (sl 16 rfl (sl 17 rfl sn))))))))) (el 10 rfl (el 111 rfl (el 9 rfl (el 113 rfl (el 512 rfl (el 922 rfl en)))))) ?_
        refine tri_reg mixed hcx ?_ _ _
        refine mv rfl ?_
        refine ld rfl rfl tyZ rfl ?_
        refine bs (c := cZ K) (xs := [redU D (pickL L (rowU b D L i j) i j) (rowU b D L i j) (dotU (b.getD i []) (b.getD j []) (b.getD i []).length) j]) slZs rfl ⟨.of (by rw [hqj]; rfl), trivial⟩ ?_
        refine ap 1813 rfl rfl rfl slZs (by simp only [List.length_cons, List.length_nil]; omega) (by decide) ?_
        refine asg rfl ?_
        refine ⟨by kernel_rfl, ?_⟩
        refine pn_blk ?_
        refine nx (sl 0 rfl (sl 2 rfl (sl 4 rfl (sl 5 rfl (sl 6 rfl (sl 7 rfl (sl 16 rfl (sl 17 rfl sn)))))))) (el 10 rfl (el 111 rfl (el 9 rfl (el 113 rfl (el 922 rfl (el 1813 rfl en)))))) ?_
        refine tri_reg mixed hcx ?_ _ _
        refine mv rfl ?_
        refine ad (((j + 1 : Nat) : Int)) rfl rfl rfl (by omega) ?_
        refine asg rfl ?_
        refine ⟨by kernel_rfl, ?_⟩
        refine pn_sub (sl 0 rfl (sl 2 rfl (sl 4 rfl (sl 5 rfl (sl 6 rfl (sl 7 rfl (sl 16 rfl (sl 17 rfl sn)))))))) (el 10 rfl (el 111 rfl (el 9 rfl (el 113 rfl (el 922 rfl (el 1813 rfl en)))))) ?_
        refine pn_ren 6 512 1813 rfl rfl (by rw [hcx]; kernel_rfl) ?_
        exact pn_back (j + 1) (by first | omega | (dsimp only; omega)) ⟨by omega, hR.snoc (red_bd hB hR (by omega) hzS (Nat.le_refl _))⟩ (sl 0 rfl (sl 2 rfl (sl 4 rfl (sl 5 rfl (sl 6 rfl (sl 7 rfl (sl 16 rfl (sl 17 rfl sn)))))))) (el 10 rfl (el 111 rfl (el 9 rfl (el 113 rfl (el 512 rfl en)))))
    · refine tri_exit ?_
      repeat (first | refine pn_then ?_ | refine pn_oth (by decide) ?_)
      refine pn_ex ?_
      have hji : j = i + 1 := by omega
      subst hji
      have hRl := hR.len
      refine nx (sl 0 rfl (sl 2 rfl (sl 4 rfl (sl 5 rfl (sl 6 rfl (sl 16 rfl (sl 17 rfl sn))))))) (el 10 rfl (el 111 rfl (el 9 rfl (el 113 rfl (el 512 rfl en))))) ?_
      refine tri_seq ?_
      refine tri_seq ?_
      rcases Int.lt_or_le 0 ((rowU b D L i (i + 1)).getD i 0) with hpos | hpos
      · have hsp : sg ((rowU b D L i (i + 1)).getD i (cZ K).dflt) = 1 := sg_pos hpos
        have hnx : bld b (i + 1) = some (D ++ [(rowU b D L i (i + 1)).getD i 0], L ++ [(rowU b D L i (i + 1)).take i]) := by show (match bld b i with | none => none | some (D, L) => if (rowU b D L i (i + 1)).getD i 0 ≤ 0 then none else some (D ++ [(rowU b D L i (i + 1)).getD i 0], L ++ [(rowU b D L i (i + 1)).take i])) = _; rw [hb]; simp only; rw [if_neg (Int.not_le.2 hpos)]
        refine tri_reg mixed hcx ?_ _ _
        refine mv rfl ?_
        refine mv rfl ?_
        refine ixo rfl rfl rfl slZs ⟨rfl, by omega⟩ ?_
        refine lo _ rfl rfl tyZ ⟨rfl, rfl, by omega⟩ ?_
        refine ca rfl (h := zi_Sign (by omega)) (hn := ?_)
        refine cle rfl rfl (decide_eq_false (by omega)) ?_
        refine ⟨by kernel_rfl, ?_⟩
        refine nx (sl 0 rfl (sl 2 rfl (sl 4 rfl (sl 5 rfl (sl 6 rfl (sl 16 rfl (sl 17 rfl (sl 92 rfl sn)))))))) (el 10 rfl (el 111 rfl (el 9 rfl (el 113 rfl (el 512 rfl en))))) ?_
        refine tri_false rfl rfl ?_
        refine tri_skip ?_
        refine nx (sl 0 rfl (sl 2 rfl (sl 4 rfl (sl 5 rfl (sl 6 rfl (sl 16 rfl (sl 17 rfl sn))))))) (el 10 rfl (el 111 rfl (el 9 rfl (el 113 rfl (el 512 rfl en))))) ?_
        refine tri_seq ?_
        refine tri_fz 512 rfl ?_
        refine tri_rd 6 512 rfl rfl ?_
        refine tri_reg mixed hcx ?_ _ _
        refine fa rfl fD 0 ?_
        refine ld rfl rfl tyZs rfl ?_
        refine mv rfl ?_
        refine mv rfl ?_
        refine ix rfl rfl slZs ⟨rfl, by omega⟩ ?_
        refine lf rfl tyZ ?_
        refine bs (c := cZ K) (xs := [(rowU b D L i (i + 1)).getD i 0]) slZs rfl ⟨.refl _, trivial⟩ ?_
        refine ap 2117 rfl rfl rfl slZs (by simp only [List.length_cons, List.length_nil]; omega) (by decide) ?_
        refine fa rfl fD 0 ?_
        refine st rfl rfl rfl tyZs rfl ?_
        refine ⟨by kernel_rfl, ?_⟩
        refine nx (sl 0 rfl (sl 2 rfl (sl 4 rfl (sl 5 rfl (sl 6 rfl (sl 16 rfl (sl 17 rfl sn))))))) (el 10 rfl (el 9 rfl (el 113 rfl (el 2117 rfl en)))) ?_
        refine tri_reg mixed hcx ?_ _ _
        refine fa rfl fL 1 ?_
        refine ld rfl rfl tyZss rfl ?_
        refine mv rfl ?_
        refine mv rfl ?_
        refine mv rfl ?_
        refine sh3 rfl slZs rfl rfl ⟨rfl, rfl, by omega⟩ ?_
        refine bs (c := cL (cZ K)) (xs := [(rowU b D L i (i + 1)).take i]) slZss rfl ⟨.refl _, trivial⟩ ?_
        refine ap 2217 rfl rfl rfl slZss (by simp only [List.length_cons, List.length_nil]; omega) (by decide) ?_
        refine fa rfl fL 1 ?_
        refine st rfl rfl rfl tyZss rfl ?_
        refine ⟨by kernel_rfl, ?_⟩
        refine pn_blk ?_
        refine nx (sl 0 rfl (sl 2 rfl (sl 4 rfl (sl 16 rfl (sl 17 rfl sn))))) (el 10 rfl (el 113 rfl (el 2117 rfl (el 2217 rfl en)))) ?_
        refine tri_reg mixed hcx ?_ _ _
        refine ad _ rfl rfl rfl ⟨rfl, by omega, by omega⟩ ?_
        refine mv rfl ?_
        refine ⟨by kernel_rfl, ?_⟩
        refine pn_sub (sl 0 rfl (sl 2 rfl (sl 4 rfl (sl 16 rfl (sl 17 rfl sn))))) (el 10 rfl (el 113 rfl (el 2117 rfl (el 2217 rfl en)))) ?_
        refine pn_renb (bl := [T.o 2117, T.o 2217]) (bl' := [T.o 111, T.o 2217]) 113 111 2117 rfl rfl ⟨.inr ⟨rfl, rfl⟩, .inl ⟨rfl, by show 111 ∉ [2217]; decide⟩, trivial⟩ (by rw [hcx]; kernel_rfl) rfl ?_
        refine pn_renb (bl := [T.o 111, T.o 2217]) (bl' := [T.o 111, T.o 9]) 113 9 2217 rfl rfl ⟨.inl ⟨rfl, by show 9 ∉ [111]; decide⟩, .inr ⟨rfl, rfl⟩, trivial⟩ (by rw [hcx]; kernel_rfl) rfl ?_
        exact pn_back (i + 1, D ++ [(rowU b D L i (i + 1)).getD i 0], L ++ [(rowU b D L i (i + 1)).take i]) (by dsimp only; omega) ⟨by omega, hnx, hB.step hR hpos⟩ (sl 0 rfl (sl 2 rfl (sl 4 rfl (sl 16 rfl (sl 17 rfl sn))))) (el 10 rfl (el 111 rfl (el 9 rfl (el 113 rfl en))))
      · have hsp : sg ((rowU b D L i (i + 1)).getD i (cZ K).dflt) ≤ 0 := sg_le.2 hpos
        refine tri_reg mixed hcx ?_ _ _
        refine mv rfl ?_
        refine mv rfl ?_
        refine ixo rfl rfl rfl slZs ⟨rfl, by omega⟩ ?_
        refine lo _ rfl rfl tyZ ⟨rfl, rfl, by omega⟩ ?_
        refine ca rfl (h := zi_Sign (by omega)) (hn := ?_)
        refine cle rfl rfl (decide_eq_true (by omega)) ?_
        refine ⟨by kernel_rfl, ?_⟩
        refine nx (sl 0 rfl (sl 2 rfl (sl 4 rfl (sl 5 rfl (sl 6 rfl (sl 16 rfl (sl 17 rfl (sl 92 rfl sn)))))))) (el 10 rfl (el 111 rfl (el 9 rfl (el 113 rfl (el 512 rfl en))))) ?_
        refine tri_true rfl rfl ?_
        refine tri_seq ?_
        refine tri_reg mixed hcx ?_ _ _
        refine bu stG rfl ?_
        refine st rfl rfl rfl tyG rfl ?_
        refine asg rfl ?_
        refine ⟨by kernel_rfl, ?_⟩
        refine nx (sl 2 rfl (sl 3 rfl sn)) (el 10 rfl (el 111 rfl (el 9 rfl (el 113 rfl (el 512 rfl en))))) ?_
        refine tri_ret ?_
        repeat (first | refine pn_thenr ?_ | refine pn_blkr ?_)
        exact ret2 hcx rfl (rv_cell (c' := cx) (n := 0) rfl rfl tyG rfl) (rv_tmp rfl) (.refl _) en
  · refine tri_exit ?_
    repeat (first | refine pn_then ?_ | refine pn_oth (by decide) ?_)
    refine pn_ex ?_
    have hin : i = b.length := by omega
    rw [hin, h] at hb; cases hb

theorem g_of_err_t {b : List (List Int)} {k : Nat} {r : Int} (hk : k ≤ 1048576) (hrr : ∀ i, i < b.length → (b.getD i []).length ≤ 1048576) (hbl : b.length ≤ 1048576) (hR : ShR b true r) (hr : r ≠ 0) : Fn Try.prog 45 [T.l (cL (cZi k)) b, T.c (.bool true)] [] [] [] (T.tup [T.st [T.c (.slice none 0 0), T.c (.slice none 0 0)], T.c (.int .i64 r)]) := by
  refine fn_of Try.func45 rfl (by show 2 ≤ 25; decide) fun cx hcx => ?_
  refine tri_sub (sl 0 rfl (sl 1 rfl sn)) en ?_
  refine tri_seq ?_
  refine tri_reg mixed hcx ?_ _ _
  refine nw 10 zeG ?_
  refine asg rfl ?_
  refine ⟨by kernel_rfl, ?_⟩
  refine nx (sl 0 rfl (sl 1 rfl (sl 4 rfl sn))) (el 10 rfl en) ?_
  refine tri_seq ?_
  refine tri_seq ?_
  refine tri_reg mixed hcx ?_ _ _
  refine mv rfl ?_
  refine mv rfl ?_
  refine ca rfl (h := g_shaped_t hk hbl hrr hR) (hn := ?_)
  refine asg rfl ?_
  refine ⟨by kernel_rfl, ?_⟩
  refine nx (sl 0 rfl (sl 4 rfl (sl 6 rfl sn))) (el 10 rfl en) ?_
  refine tri_seq ?_
  refine tri_reg mixed hcx ?_ _ _
  refine mv rfl ?_
  refine cne rfl rfl (decide_eq_true hr) ?_
  refine ⟨by kernel_rfl, ?_⟩
  refine nx (sl 0 rfl (sl 4 rfl (sl 6 rfl (sl 13 rfl sn)))) (el 10 rfl en) ?_
  refine tri_true rfl rfl ?_
  refine tri_seq ?_
  refine tri_reg mixed hcx ?_ _ _
  refine bu stG rfl ?_
  refine mv rfl ?_
  refine st rfl rfl rfl tyG rfl ?_
  refine asg rfl ?_
  refine ⟨by kernel_rfl, ?_⟩
  refine nx (sl 4 rfl (sl 5 rfl sn)) (el 10 rfl en) ?_
  refine tri_ret ?_
  repeat (first | refine pn_thenr ?_ | refine pn_blkr ?_)
  exact ret2 hcx rfl (rv_cell (c' := cx) (n := 0) rfl rfl tyG rfl) (rv_tmp rfl) (.refl _) en

theorem g_of_no_t {b : List (List Int)} {k m S K : Nat} (h0 : 0 < b.length) (hb : b.length ≤ 12) (hm : ∀ i, i < b.length → (b.getD i []).length = m) (hk : k ≤ 1048576) (hm12 : m ≤ 12) (hR : ShR b true 0) (h : bld b b.length = none) (hS : ∀ i j, i < b.length → j ≤ i → zl (dotU (b.getD i []) (b.getD j []) (b.getD i []).length) ≤ S) (hK1 : bd S 12 ≤ K) (hK2 : K ≤ 137438953472) (hK3 : 2 ≤ K) : Fn Try.prog 45 [T.l (cL (cZi k)) b, T.c (.bool true)] [] [] [] (T.tup [T.st [T.c (.slice none 0 0), T.c (.slice none 0 0)], T.c (.int .i64 50)]) := by
  refine fn_of Try.func45 rfl (by show 2 ≤ 25; decide) fun cx hcx => ?_
  refine tri_sub (sl 0 rfl (sl 1 rfl sn)) en ?_
  have hrr : ∀ i, i < b.length → (b.getD i []).length ≤ 1048576 := fun i hi => by rw [hm i hi]; omega
  refine tri_seq ?_
  refine tri_reg mixed hcx ?_ _ _
  refine nw 10 zeG ?_
  refine asg rfl ?_
  refine ⟨by kernel_rfl, ?_⟩
  refine nx (sl 0 rfl (sl 1 rfl (sl 4 rfl sn))) (el 10 rfl en) ?_
  refine tri_seq ?_
  refine tri_seq ?_
  refine tri_reg mixed hcx ?_ _ _
  refine mv rfl ?_
  refine mv rfl ?_
  refine ca rfl (h := g_shaped_t hk (by omega) hrr hR) (hn := ?_)
  refine asg rfl ?_
  refine ⟨by kernel_rfl, ?_⟩
  refine nx (sl 0 rfl (sl 4 rfl (sl 6 rfl sn))) (el 10 rfl en) ?_
  refine tri_seq ?_
  refine tri_reg mixed hcx ?_ _ _
  refine mv rfl ?_
  refine cne rfl rfl (decide_eq_false (by omega)) ?_
  refine ⟨by kernel_rfl, ?_⟩
  refine nx (sl 0 rfl (sl 4 rfl (sl 6 rfl (sl 13 rfl sn)))) (el 10 rfl en) ?_
  refine tri_false rfl rfl ?_
  refine tri_skip ?_
  refine nx (sl 0 rfl (sl 4 rfl sn)) (el 10 rfl en) ?_
  refine tri_seq ?_
  refine tri_reg mixed hcx ?_ _ _
  refine mv rfl ?_
  refine ca rfl (h := g_built_no h hb hm (by omega) hk hS hK1 hK2 hK3) (hn := ?_)
  refine mv rfl ?_
  refine ex rfl rfl ?_
  refine ex rfl rfl ?_
  refine nw 415 zeG ?_
  refine st rfl rfl rfl tyG rfl ?_
  refine asg rfl ?_
  refine ⟨by kernel_rfl, ?_⟩
  refine nx (sl 4 rfl (sl 7 rfl (sl 8 rfl sn))) (el 10 rfl (el 415 rfl en)) ?_
  refine tri_seq ?_
  refine tri_seq ?_
  refine tri_reg mixed hcx ?_ _ _
  refine mv rfl ?_
  refine nt rfl _ rfl ?_
  refine ⟨by kernel_rfl, ?_⟩
  refine nx (sl 4 rfl (sl 7 rfl (sl 22 rfl sn))) (el 10 rfl (el 415 rfl en)) ?_
  refine tri_true rfl rfl ?_
  refine tri_seq ?_
  refine tri_reg mixed hcx ?_ _ _
  refine bu stG rfl ?_
  refine st rfl rfl rfl tyG rfl ?_
  refine asg rfl ?_
  refine ⟨by kernel_rfl, ?_⟩
  refine nx (sl 4 rfl (sl 5 rfl sn)) (el 10 rfl (el 415 rfl en)) ?_
  refine tri_ret ?_
  repeat (first | refine pn_thenr ?_ | refine pn_blkr ?_)
  exact ret2 hcx rfl (rv_cell (c' := cx) (n := 0) rfl rfl tyG rfl) (rv_tmp rfl) (.refl _) en

theorem g_of_ok_t {b : List (List Int)} {D0 : List Int} {L0 : List (List Int)} {k m S K : Nat} (h0 : 0 < b.length) (hb : b.length ≤ 12) (hm : ∀ i, i < b.length → (b.getD i []).length = m) (hk : k ≤ 1048576) (hm12 : m ≤ 12) (hR : ShR b true 0) (h : bld b b.length = some (D0, L0)) (hS : ∀ i j, i < b.length → j ≤ i → zl (dotU (b.getD i []) (b.getD j []) (b.getD i []).length) ≤ S) (hK1 : bd S 12 ≤ K) (hK2 : K ≤ 137438953472) (hK3 : 2 ≤ K) : Fn Try.prog 45 [T.l (cL (cZi k)) b, T.c (.bool true)] [] [] [] (T.tup [T.st [T.l (cZ K) D0, T.l (cL (cZ K)) L0], T.c (.int .i64 0)]) := by
  refine fn_of Try.func45 rfl (by show 2 ≤ 25; decide) fun cx hcx => ?_
  refine tri_sub (sl 0 rfl (sl 1 rfl sn)) en ?_
  have hrr : ∀ i, i < b.length → (b.getD i []).length ≤ 1048576 := fun i hi => by rw [hm i hi]; omega
  refine tri_seq ?_
  refine tri_reg mixed hcx ?_ _ _
  refine nw 10 zeG ?_
  refine asg rfl ?_
  refine ⟨by kernel_rfl, ?_⟩
  refine nx (sl 0 rfl (sl 1 rfl (sl 4 rfl sn))) (el 10 rfl en) ?_
  refine tri_seq ?_
  refine tri_seq ?_
  refine tri_reg mixed hcx ?_ _ _
  refine mv rfl ?_
  refine mv rfl ?_
  refine ca rfl (h := g_shaped_t hk (by omega) hrr hR) (hn := ?_)
  refine asg rfl ?_
  refine ⟨by kernel_rfl, ?_⟩
  refine nx (sl 0 rfl (sl 4 rfl (sl 6 rfl sn))) (el 10 rfl en) ?_
  refine tri_seq ?_
  refine tri_reg mixed hcx ?_ _ _
  refine mv rfl ?_
  refine cne rfl rfl (decide_eq_false (by omega)) ?_
  refine ⟨by kernel_rfl, ?_⟩
  refine nx (sl 0 rfl (sl 4 rfl (sl 6 rfl (sl 13 rfl sn)))) (el 10 rfl en) ?_
  refine tri_false rfl rfl ?_
  refine tri_skip ?_
  refine nx (sl 0 rfl (sl 4 rfl sn)) (el 10 rfl en) ?_
  refine tri_seq ?_
  refine tri_reg mixed hcx ?_ _ _
  refine mv rfl ?_
  refine ca rfl (h := g_built h hb hm (by omega) hk hS hK1 hK2 hK3) (hn := ?_)
  refine mv rfl ?_
  refine ex rfl rfl ?_
  refine ex rfl rfl ?_
  refine nw 415 zeG ?_
  refine st rfl rfl rfl tyG rfl ?_
  refine asg rfl ?_
  refine ⟨by kernel_rfl, ?_⟩
  refine nx (sl 4 rfl (sl 7 rfl (sl 8 rfl sn))) (el 10 rfl (el 415 rfl en)) ?_
  refine tri_seq ?_
  refine tri_seq ?_
  refine tri_reg mixed hcx ?_ _ _
  refine mv rfl ?_
  refine nt rfl _ rfl ?_
  refine ⟨by kernel_rfl, ?_⟩
  refine nx (sl 4 rfl (sl 7 rfl (sl 22 rfl sn))) (el 10 rfl (el 415 rfl en)) ?_
  refine tri_false rfl rfl ?_
  refine tri_skip ?_
  refine nx (sl 4 rfl (sl 7 rfl sn)) (el 10 rfl (el 415 rfl en)) ?_
  refine tri_seq ?_
  refine tri_reg mixed hcx ?_ _ _
  refine ld rfl rfl tyG rfl ?_
  refine st rfl rfl rfl tyG rfl ?_
  refine asg rfl ?_
  refine ⟨by kernel_rfl, ?_⟩
  refine nx (sl 4 rfl (sl 5 rfl sn)) (el 10 rfl (el 415 rfl en)) ?_
  refine tri_ret ?_
  repeat (first | refine pn_thenr ?_ | refine pn_blkr ?_)
  exact ret2 hcx rfl (rv_cell (c' := cx) (n := 0) rfl rfl tyG rfl) (rv_tmp rfl) (.refl _) en

end Go.Proofs.Ytffnfbhhjjbjbaa.V
/- The document: rows made orthogonal. -/
set_option linter.unusedVariables false
set_option linter.unusedSimpArgs false
set_option maxRecDepth 100000
namespace Go.Proofs.Ytffnfbhhjjbjbaa.V
open Go.RowKit Mt Nml
theorem box_open {et : TypeId} {l : List T} : (Ent.box et [T.st l]).le (Ent.box et l) := fun β u w v F ⟨b, cs, h1, h2, h3, v', rest, _, ⟨cs', e1, hc⟩, e2, e3⟩ => ⟨b, cs, h1, h2, h3, by
  subst e1
  rw [e3, List.append_nil] at e2
  simp only [Value.cells] at e2
  rw [e2]; exact hc⟩
/-- The coefficients and squared lengths of rows, as fractions. -/
def mR (b : List (List Int)) (i j : Nat) : Rat := Mr (gR b) j i j / Mr (gR b) j j j
def sR (b : List (List Int)) (i : Nat) : Rat := Mr (gR b) i i i
theorem rng_at {α : Type} {f : Nat → α} {d : α} {n k : Nat} (h : k < n) : ((List.range n).map f).getD k d = f k := by
  rw [List.getD_eq_getElem?_getD, List.getElem?_map, List.getElem?_range h]; rfl
end Go.Proofs.Ytffnfbhhjjbjbaa.V
/- The data of rows: how large, and that the squared length of a sum of rows is what the data say. -/
set_option linter.unusedVariables false
namespace Go.Proofs.Ytffnfbhhjjbjbaa.V
open Mt Nml
theorem RI.row {b : List (List Int)} {D : List Int} {L : List (List Int)} {S i : Nat} (hB : BI S i D L) (hS : ∀ j, j ≤ i → zl (gU b i j) ≤ S) : ∀ j, j ≤ i + 1 → RI S j (rowU b D L i j)
  | 0, _ => RI.zero S
  | j + 1, hj => by
    have h := RI.row hB hS j (by omega)
    unfold rowU
    exact h.snoc (red_bd hB h (by omega) (hS j (by omega)) (Nat.le_refl _))
theorem bld_BI {b : List (List Int)} {S : Nat} (hS : ∀ i j, i < b.length → j ≤ i → zl (gU b i j) ≤ S) : ∀ {i : Nat} {D : List Int} {L : List (List Int)}, i ≤ b.length → bld b i = some (D, L) → BI S i D L
  | 0, D, L, _, h => by cases h; exact BI.zero S
  | i + 1, D, L, hi, h => by
    obtain ⟨D', L', h1, h2, h3⟩ := bld_prev h
    cases h3
    have hB := bld_BI hS (by omega) h1
    exact hB.step (RI.row hB (fun j hj => hS i j (by omega) hj) (i + 1) (Nat.le_refl _)) h2
theorem Ok.mono {b : List (List Int)} {m n : Nat} (h : Ok b n) (hm : m ≤ n) : Ok b m := fun k hk => h k (by omega)
/-- Sums of fractions. -/
def sumN (f : Nat → Rat) : Nat → Rat
  | 0 => 0
  | n + 1 => sumN f n + f n
theorem sum_congr {f g : Nat → Rat} : ∀ {n : Nat}, (∀ i, i < n → f i = g i) → sumN f n = sumN g n
  | 0, _ => rfl
  | n + 1, h => by show sumN f n + f n = sumN g n + g n; rw [sum_congr fun i hi => h i (by omega), h n (by omega)]
theorem sum_add (f g : Nat → Rat) : ∀ n, sumN (fun i => f i + g i) n = sumN f n + sumN g n
  | 0 => by show (0 : Rat) = 0 + 0; grind
  | n + 1 => by show sumN _ n + (f n + g n) = sumN f n + f n + (sumN g n + g n); rw [sum_add f g n]; grind
theorem sum_mul (c : Rat) (f : Nat → Rat) : ∀ n, sumN (fun i => c * f i) n = c * sumN f n
  | 0 => by show (0 : Rat) = c * 0; grind
  | n + 1 => by show sumN _ n + c * f n = c * (sumN f n + f n); rw [sum_mul c f n]; grind
theorem sum_zero {f : Nat → Rat} {n : Nat} (h : ∀ i, i < n → f i = 0) : sumN f n = 0 := by
  rw [sum_congr (g := fun _ => 0 * 0) fun i hi => by rw [h i hi]; grind]
  rw [sum_mul]; grind
theorem sum_swap (f : Nat → Nat → Rat) (m : Nat) : ∀ n, sumN (fun i => sumN (f i) m) n = sumN (fun j => sumN (fun i => f i j) n) m
  | 0 => by show (0 : Rat) = sumN (fun _ => 0) m; exact (sum_zero fun _ _ => rfl).symm
  | n + 1 => by
    show sumN _ n + sumN (f n) m = sumN (fun j => sumN (fun i => f i j) n + f n j) m
    rw [sum_swap f m n, sum_add]
/-- What elimination has done away with. -/
theorem mr_zero {b : List (List Int)} {n : Nat} (h : Ok b n) : ∀ k, k ≤ n → ∀ j, j < k → ∀ c, Mr (gR b) k j c = 0
  | 0, _, j, hj, c => absurd hj (Nat.not_lt_zero _)
  | k + 1, hk, j, hj, c => by
    show Mr (gR b) k j c + -(Mr (gR b) k j k / Mr (gR b) k k k) * Mr (gR b) k k c = 0
    have hm := ok_ne h (show k < n by omega)
    rcases Nat.lt_or_eq_of_le (Nat.le_of_lt_succ hj) with h1 | h1
    · rw [mr_zero h k (by omega) j h1 c, mr_zero h k (by omega) j h1 k]
      rw [Rat.div_def]; grind
    · subst h1
      generalize Mr (gR b) j j j = m at hm
      generalize Mr (gR b) j j c = x
      grind
/-- The form that is left behind k steps. -/
def QF (b : List (List Int)) (x : Nat → Rat) (n k : Nat) : Rat := sumN (fun j => x j * sumN (fun l => x l * Mr (gR b) k j l) n) n
def YF (b : List (List Int)) (x : Nat → Rat) (n k : Nat) : Rat := sumN (fun j => x j * Mr (gR b) k j k) n / Mr (gR b) k k k
theorem qf_step {b : List (List Int)} {x : Nat → Rat} {n k : Nat} (h : Mr (gR b) k k k ≠ 0) : QF b x n k = QF b x n (k + 1) + YF b x n k * YF b x n k * sR b k := by
  have e1 : ∀ j, sumN (fun l => x l * Mr (gR b) k j l) n = sumN (fun l => x l * Mr (gR b) (k + 1) j l) n + Mr (gR b) k j k / Mr (gR b) k k k * sumN (fun l => x l * Mr (gR b) k k l) n := fun j => by
    rw [← sum_mul, ← sum_add]
    refine sum_congr fun l _ => ?_
    show _ = x l * (Mr (gR b) k j l + -(Mr (gR b) k j k / Mr (gR b) k k k) * Mr (gR b) k k l) + _
    grind
  have e2 : sumN (fun l => x l * Mr (gR b) k k l) n = sumN (fun l => x l * Mr (gR b) k l k) n := sum_congr fun l _ => by rw [mr_symm (gR_symm b) k k l]
  unfold QF
  rw [sum_congr (g := fun j => x j * sumN (fun l => x l * Mr (gR b) (k + 1) j l) n + (sumN (fun l => x l * Mr (gR b) k l k) n / Mr (gR b) k k k) * (x j * Mr (gR b) k j k)) (fun j _ => by rw [e1, e2, Rat.div_def, Rat.div_def]; grind), sum_add, sum_mul]
  congr 1
  unfold YF sR
  generalize sumN (fun l => x l * Mr (gR b) k l k) n = s
  generalize Mr (gR b) k k k = m at h
  grind
theorem qf_end {b : List (List Int)} {x : Nat → Rat} {n : Nat} (h : Ok b n) : QF b x n n = 0 :=
  sum_zero fun j hj => by rw [sum_zero (f := fun l => x l * Mr (gR b) n j l) fun l _ => by rw [mr_zero h n (Nat.le_refl _) j hj l]; grind]; grind
theorem qf_sum {b : List (List Int)} {x : Nat → Rat} {n : Nat} (h : Ok b n) : ∀ k, k ≤ n → QF b x n 0 = QF b x n k + sumN (fun i => YF b x n i * YF b x n i * sR b i) k
  | 0, _ => by show _ = _ + (0 : Rat); grind
  | k + 1, hk => by
    show _ = _ + (sumN _ k + _)
    rw [qf_sum h k (by omega), qf_step (ok_ne h (show k < n by omega))]
    grind
theorem qf_all {b : List (List Int)} {x : Nat → Rat} {n : Nat} (h : Ok b n) : sumN (fun i => YF b x n i * YF b x n i * sR b i) n = QF b x n 0 := by
  rw [qf_sum h n (Nat.le_refl _), qf_end h]; grind
/-- The data's numbers as fractions. -/
theorem DI.star {b : List (List Int)} {n : Nat} {D : List Int} {L : List (List Int)} (h : DI b n D L) {i : Nat} (hi : i < n) : ((D.getD (i + 1) 0 : Int) : Rat) / ((D.getD i 0 : Int) : Rat) = sR b i := by
  have hp := rat_pos_ne (pb_pos h.ok i (by omega))
  rw [h.d (i + 1) (by omega), h.d i (by omega), pb_succ]
  show pb b i * sR b i / pb b i = _
  generalize sR b i = s
  generalize pb b i = p at hp
  grind
theorem DI.mu {b : List (List Int)} {n : Nat} {D : List Int} {L : List (List Int)} (h : DI b n D L) {i j : Nat} (hi : i < n) (hj : j < i) : (((L.getD i []).getD j 0 : Int) : Rat) / ((D.getD (j + 1) 0 : Int) : Rat) = mR b i j := by
  have hp := rat_pos_ne (pb_pos h.ok j (by omega))
  have hm := ok_ne h.ok (show j < n by omega)
  rw [h.d (j + 1) (by omega), h.l i j hi hj, pb_succ]
  unfold mR
  generalize Mr (gR b) j j j = m at hm
  generalize Mr (gR b) j i j = x
  generalize pb b j = p at hp
  grind
theorem yU_YF {b : List (List Int)} {n : Nat} {D : List Int} {L : List (List Int)} (h : DI b n D L) (x : List Int) {i : Nat} (hi : i < n) : ∀ t, i + 1 + t ≤ n → yU D L x i t = sumN (fun j => ((x.getD j 0 : Int) : Rat) * Mr (gR b) i j i) (i + 1 + t) / Mr (gR b) i i i
  | 0, _ => by
    have hm := ok_ne h.ok hi
    show ((x.getD i 0 : Int) : Rat) = (sumN (fun j => ((x.getD j 0 : Int) : Rat) * Mr (gR b) i j i) i + ((x.getD i 0 : Int) : Rat) * Mr (gR b) i i i) / _
    rw [sum_zero (n := i) (fun j hj => by rw [mr_zero h.ok i (by omega) j hj i]; grind)]
    generalize Mr (gR b) i i i = m at hm
    grind
  | t + 1, ht => by
    have hm := ok_ne h.ok hi
    have e := h.mu (i := i + 1 + t) (j := i) (by omega) (by omega)
    show yU D L x i t + ((x.getD (i + 1 + t) 0 * (L.getD (i + 1 + t) []).getD i 0 : Int) : Rat) / ((D.getD (i + 1) 0 : Int) : Rat) = (sumN (fun j => ((x.getD j 0 : Int) : Rat) * Mr (gR b) i j i) (i + 1 + t) + ((x.getD (i + 1 + t) 0 : Int) : Rat) * Mr (gR b) i (i + 1 + t) i) / _
    rw [yU_YF h x hi t (by omega), ← mul_swap, e]
    unfold mR
    generalize Mr (gR b) i i i = m at hm
    grind
theorem sU_sum {b : List (List Int)} {n : Nat} {D : List Int} {L : List (List Int)} (h : DI b n D L) (x : List Int) : ∀ i, i ≤ n → sU D L x n i = sumN (fun k => YF b (fun j => ((x.getD j 0 : Int) : Rat)) n k * YF b (fun j => ((x.getD j 0 : Int) : Rat)) n k * sR b k) i
  | 0, _ => rfl
  | i + 1, hi => by
    show sU D L x n i + yU D L x i (n - (i + 1)) * yU D L x i (n - (i + 1)) * _ = sumN _ i + _
    rw [sU_sum h x i (by omega), h.star (by omega), yU_YF h x (by omega) (n - (i + 1)) (by omega), show i + 1 + (n - (i + 1)) = n by omega]
    rfl
/-- The squared length of a sum of rows, by the data, is the form of the products. -/
theorem sU_form {b : List (List Int)} {n : Nat} {D : List Int} {L : List (List Int)} (h : DI b n D L) (x : List Int) : sU D L x n n = sumN (fun j => ((x.getD j 0 : Int) : Rat) * sumN (fun l => ((x.getD l 0 : Int) : Rat) * ((gU b j l : Int) : Rat)) n) n := by
  rw [sU_sum h x n (Nat.le_refl _), qf_all h.ok]; rfl
/-! ### sums of rows -/
/-- The sum of the first k rows, each so many times; m numbers. -/
def vU (b : List (List Int)) (x : List Int) (m : Nat) : Nat → List Int
  | 0 => List.replicate m 0
  | k + 1 => (List.range m).map fun c => (vU b x m k).getD c 0 + x.getD k 0 * (b.getD k []).getD c 0
theorem vU_at (b : List (List Int)) (x : List Int) (m : Nat) : ∀ k c, c < m → (((vU b x m k).getD c 0 : Int) : Rat) = sumN (fun j => ((x.getD j 0 : Int) : Rat) * (((b.getD j []).getD c 0 : Int) : Rat)) k
  | 0, c, hc => by
    show (((List.replicate m (0 : Int)).getD c 0 : Int) : Rat) = 0
    rw [List.getD_eq_getElem?_getD, List.getElem?_replicate]; split <;> rfl
  | k + 1, c, hc => by
    show ((((List.range m).map _).getD c 0 : Int) : Rat) = sumN _ k + _
    rw [rng_at hc, Rat.intCast_add, Rat.intCast_mul, vU_at b x m k c hc]
theorem dot_sum (xs ys : List Int) : ∀ n, ((dotU xs ys n : Int) : Rat) = sumN (fun c => ((xs.getD c 0 : Int) : Rat) * ((ys.getD c 0 : Int) : Rat)) n
  | 0 => rfl
  | n + 1 => by
    show ((dotU xs ys n + _ : Int) : Rat) = sumN _ n + _
    rw [Rat.intCast_add, Rat.intCast_mul, dot_sum xs ys n]
theorem sum_prod (f g : Nat → Rat) (m n : Nat) : sumN f m * sumN g n = sumN (fun i => f i * sumN g n) m := by
  rw [sum_congr (g := fun i => sumN g n * f i) (fun i _ => Rat.mul_comm _ _), sum_mul]; grind
theorem form_dot {b : List (List Int)} {x : List Int} {m n : Nat} (hm : ∀ j, j < n → (b.getD j []).length = m) : sumN (fun j => ((x.getD j 0 : Int) : Rat) * sumN (fun l => ((x.getD l 0 : Int) : Rat) * ((gU b j l : Int) : Rat)) n) n = ((dotU (vU b x m n) (vU b x m n) m : Int) : Rat) := by
  rw [dot_sum]
  rw [sum_congr (n := m) (g := fun c => sumN (fun j => sumN (fun l => (((x.getD j 0 : Int) : Rat) * (((b.getD j []).getD c 0 : Int) : Rat)) * (((x.getD l 0 : Int) : Rat) * (((b.getD l []).getD c 0 : Int) : Rat))) n) n) (fun c hc => by
    rw [vU_at b x m n c hc, sum_prod]
    exact sum_congr fun j _ => (sum_mul _ _ n).symm)]
  rw [← sum_swap]
  refine sum_congr fun j hj => ?_
  rw [← sum_swap, ← sum_mul]
  refine sum_congr fun l hl => ?_
  show _ * (_ * ((dotU (b.getD j []) (b.getD l []) (b.getD j []).length : Int) : Rat)) = _
  rw [hm j hj, dot_sum, ← sum_mul, ← sum_mul]
  exact sum_congr fun c _ => by grind
theorem norm_len {b : List (List Int)} {x : List Int} {m n : Nat} {D : List Int} {L : List (List Int)} (h : DI b n D L) (hm : ∀ j, j < n → (b.getD j []).length = m) : sU D L x n n = ((dotU (vU b x m n) (vU b x m n) m : Int) : Rat) := by rw [sU_form h, form_dot hm]
theorem DI.good {b : List (List Int)} {n : Nat} {D : List Int} {L : List (List Int)} (h : DI b n D L) (hn : 0 < n) : GoodP D L := by
  have hpos : ∀ k, k ≤ n → 0 < D.getD k 0 := fun k hk => by
    have := pb_pos h.ok k hk
    rw [← h.d k hk] at this
    exact Rat.intCast_pos.1 this
  refine ⟨by rw [h.lL]; exact hn, by rw [h.lD, h.lL], ?_, fun i hi => ?_⟩
  · have := h.d 0 (Nat.zero_le _)
    exact Rat.intCast_inj.1 (this.trans rfl)
  · rw [h.lL] at hi
    exact ⟨h.lr i hi, hpos (i + 1) (by omega)⟩
end Go.Proofs.Ytffnfbhhjjbjbaa.V
/- The nearest point: the normal equations, and how far it is. -/
set_option linter.unusedVariables false
set_option maxRecDepth 100000
namespace Go.Proofs.Ytffnfbhhjjbjbaa.V
open Go.RowKit Mt Nml
/-- The coefficient of a row along a star, whichever. -/
def Wq (b : List (List Int)) (i l : Nat) : Rat := Mr (gR b) l i l / Mr (gR b) l l l
theorem gram_step {b : List (List Int)} {n : Nat} (h : Ok b n) (i m : Nat) : ∀ k, k ≤ n → gR b i m = sumN (fun l => Wq b i l * (Wq b m l * sR b l)) k + Mr (gR b) k i m
  | 0, _ => by show gR b i m = (0 : Rat) + gR b i m; grind
  | k + 1, hk => by
    have hm := ok_ne h (show k < n by omega)
    rw [gram_step h i m k (by omega)]
    show sumN _ k + Mr (gR b) k i m = sumN _ k + Wq b i k * (Wq b m k * sR b k) + (Mr (gR b) k i m + -(Mr (gR b) k i k / Mr (gR b) k k k) * Mr (gR b) k k m)
    rw [mr_symm (gR_symm b) k k m]
    unfold Wq sR
    generalize Mr (gR b) k k k = q at hm
    generalize Mr (gR b) k i k = x
    generalize Mr (gR b) k m k = y
    grind
theorem gram_W {b : List (List Int)} {n : Nat} (h : Ok b n) {i : Nat} (hi : i < n) (m : Nat) : gR b i m = sumN (fun l => Wq b i l * (Wq b m l * sR b l)) n := by
  rw [gram_step h i m n (Nat.le_refl _), mr_zero h n (Nat.le_refl _) i hi m]
  grind
/-- What is known of the coefficients: Y along the stars, C along the rows. -/
structure Near (b : List (List Int)) (n : Nat) (a Y C : Nat → Rat) : Prop where
  ok : Ok b n
  y : ∀ i, i < n → a i = sumN (fun l => Wq b i l * sR b l * Y l) n
  c : ∀ l, l < n → Y l = sumN (fun i => C i * Wq b i l) n
/-- The normal equations. -/
theorem Near.normal {b : List (List Int)} {n : Nat} {a Y C : Nat → Rat} (h : Near b n a Y C) {m : Nat} (hm : m < n) : sumN (fun i => C i * gR b i m) n = a m := by
  rw [sum_congr (g := fun i => sumN (fun l => C i * (Wq b i l * (Wq b m l * sR b l))) n) (fun i hi => by rw [gram_W h.ok hi m, sum_mul]), sum_swap, h.y m hm]
  refine sum_congr fun l hl => ?_
  rw [sum_congr (g := fun i => (Wq b m l * sR b l) * (C i * Wq b i l)) (fun i _ => by grind), sum_mul, ← h.c l hl]
/-! ### columns -/
abbrev tq (ts : List (Int × Int)) (k : Nat) : Rat := ((ts.getD k (0, 0)).1 : Rat) / ((ts.getD k (0, 0)).2 : Rat)
/-- The product of what is left and a row, term by term. -/
def nq (b : List (List Int)) (c : List Rat) (ts : List (Int × Int)) (n i : Nat) : Nat → Rat
  | 0 => 0
  | k + 1 => nq b c ts n i k + lq b c (tq ts k) k n * (((b.getD i []).getD k 0 : Int) : Rat)
end Go.Proofs.Ytffnfbhhjjbjbaa.V
/- A search tree: centres and parts as plain sums, and how large they are. -/
set_option linter.unusedVariables false
set_option maxRecDepth 100000
namespace Go.Proofs.Ytffnfbhhjjbjbaa.V
open Go.RowKit Mt Nml
/-- The target's coefficient of a row. -/
def aqT (ts : List (Int × Int)) (i : Nat) : Rat := if ts.length = 0 then 0 else tq ts i
/-- The centre of a suffix, after k of its numbers: i is the row, m the last row. -/
def ctT (D : List Int) (L : List (List Int)) (ts : List (Int × Int)) (s : List Int) (m i : Nat) : Nat → Rat
  | 0 => aqT ts i
  | k + 1 => ctT D L ts s m i k - (((s.getD k 0 : Int) : Rat) - aqT ts (m - k)) * muq D L (m - k) i
/-- The part of a suffix's first k numbers. -/
def ptT (D : List Int) (L : List (List Int)) (ts : List (Int × Int)) (s : List Int) (m : Nat) : Nat → Rat
  | 0 => 0
  | k + 1 => ptT D L ts s m k + (((s.getD k 0 : Int) : Rat) - ctT D L ts s m (m - k) k) * (((s.getD k 0 : Int) : Rat) - ctT D L ts s m (m - k) k) * stq D (m - k)
/-! ### sizes -/
theorem QB.nd {q : Rat} {k : Nat} (h : QB q k) : 0 < ((q.den : Int)) ∧ ((q.num : Rat) / (((q.den : Int)) : Rat) = q) ∧ zl q.num ≤ k ∧ zl (q.den : Int) ≤ k := ⟨den_p' q, rat_nd q, h.1, h.2⟩
theorem QB.add2 {x y : Rat} {k l : Nat} (h : QB x k) (h' : QB y l) : QB (x + y) (k + l + 1) := QB.addv (QB.nd h).1 (QB.nd h').1 (QB.nd h).2.1 (QB.nd h').2.1 h.1 h.2 h'.1 h'.2
theorem QB.sub2 {x y : Rat} {k l : Nat} (h : QB x k) (h' : QB y l) : QB (x - y) (k + l + 1) := QB.subv (QB.nd h).1 (QB.nd h').1 (QB.nd h).2.1 (QB.nd h').2.1 h.1 h.2 h'.1 h'.2
theorem QB.mul2 {x y : Rat} {k l : Nat} (h : QB x k) (h' : QB y l) : QB (x * y) (k + l) := QB.mulv (QB.nd h).1 (QB.nd h').1 (QB.nd h).2.1 (QB.nd h').2.1 h.1 h.2 h'.1 h'.2
theorem QB.int {z : Int} {k : Nat} (h : zl z ≤ k) : QB (z : Rat) (k + 1) := by
  have := qb_div h zl_one (by decide : (1 : Int) ≠ 0)
  rw [show (z : Rat) / ((1 : Int) : Rat) = (z : Rat) from by rw [show ((1 : Int) : Rat) = 1 from rfl]; grind] at this
  exact QB.mono this (by omega)
theorem QB.frac {a b : Int} {k : Nat} (h : zl a ≤ k) (h' : zl b ≤ k) (hb : b ≠ 0) : QB ((a : Rat) / (b : Rat)) k := by
  have := qb_div h h' hb
  rwa [Nat.max_self] at this
/-- What is known of a tree: as many rows as m + 1, numbers of at most k limbs. -/
structure TrS (D : List Int) (L : List (List Int)) (ts : List (Int × Int)) (n k : Nat) : Prop where
  good : GoodP D L
  len : L.length = n
  twelve : n ≤ 12
  tl : ts.length = 0 ∨ ts.length = n
  tp : ∀ i, i < ts.length → 0 < (ts.getD i (0, 0)).2
  zt : ∀ i, i < ts.length → zl (ts.getD i (0, 0)).1 ≤ k ∧ zl (ts.getD i (0, 0)).2 ≤ k
  zD : ∀ j, zl (D.getD j 0) ≤ k
  zL : ∀ i j, zl ((L.getD j []).getD i 0) ≤ k
  hk : k ≤ 1048576
namespace TrS
variable {D : List Int} {L : List (List Int)} {ts : List (Int × Int)} {n k : Nat} (h : TrS D L ts n k)
include h
theorem pos : 0 < n := by have := h.good.1; have := h.len; omega
theorem dp {i : Nat} (hi : i ≤ n) : 0 < D.getD i 0 := h.good.pos (by rw [h.len]; exact hi)
theorem a {i : Nat} (hi : i < n) : QB (aqT ts i) (k + 2) := by
  unfold aqT
  split
  · exact QB.mono (QB.int (z := 0) (k := 0) (by rw [zl_zero]; exact Nat.le_refl _)) (by omega)
  · rename_i h0
    rcases h.tl with h1 | h1
    · exact absurd h1 h0
    · have := h.tp i (by omega)
      exact QB.mono (QB.frac (h.zt i (by omega)).1 (h.zt i (by omega)).2 (by omega)) (by omega)
theorem mu {i j : Nat} (hi : i ≤ n) (hj : j < i) : QB (muq D L i j) k := QB.frac (h.zL _ _) (h.zD _) (by have := h.dp (i := j + 1) (by omega); omega)
theorem st {i : Nat} (hi : i < n) : QB (stq D i) k := QB.frac (h.zD _) (h.zD _) (by have := h.dp (i := i) (by omega); omega)
theorem ct {s : List Int} (hs : ∀ j, zl (s.getD j 0) ≤ k) {m i : Nat} (hm : m + 1 = n) : ∀ {c : Nat}, i + c ≤ m → QB (ctT D L ts s m i c) (k + 2 + c * (3 * k + 6))
  | 0, hc => QB.mono (h.a (by omega)) (by omega)
  | c + 1, hc => by
    have h1 := ct hs (m := m) (i := i) hm (c := c) (by omega)
    have h2 := QB.mul2 (QB.sub2 (QB.int (hs c)) (h.a (i := m - c) (by omega))) (h.mu (i := m - c) (j := i) (by omega) (by omega))
    have h3 := QB.sub2 h1 h2
    refine QB.mono h3 ?_
    have e : (c + 1) * (3 * k + 6) = c * (3 * k + 6) + (3 * k + 6) := Nat.succ_mul _ _
    omega
/-- One size for all centres. -/
theorem ct' {s : List Int} (hs : ∀ j, zl (s.getD j 0) ≤ k) {m i c : Nat} (hm : m + 1 = n) (hc : i + c ≤ m) : QB (ctT D L ts s m i c) 67108864 := by
  have h1 := h.ct hs hm hc
  have h2 := h.hk
  have h3 := h.twelve
  have h4 : c * (3 * k + 6) ≤ 11 * 3145734 := Nat.mul_le_mul (by omega) (by omega)
  exact QB.mono h1 (by omega)
theorem pt {s : List Int} (hs : ∀ j, zl (s.getD j 0) ≤ k) {m : Nat} (hm : m + 1 = n) : ∀ {c : Nat}, c ≤ n → QB (ptT D L ts s m c) (1 + c * 138412056)
  | 0, hc => QB.int (z := 0) (k := 0) (by rw [zl_zero]; exact Nat.le_refl _)
  | c + 1, hc => by
    have h1 := pt hs hm (c := c) (by omega)
    have h2 := QB.sub2 (QB.int (hs c)) (h.ct' hs (m := m) (i := m - c) (c := c) hm (by omega))
    have h3 := QB.add2 h1 (QB.mul2 (QB.mul2 h2 h2) (h.st (i := m - c) (by omega)))
    have h4 := h.hk
    refine QB.mono h3 ?_
    have e : (c + 1) * 138412056 = c * 138412056 + 138412056 := Nat.succ_mul _ _
    omega
end TrS
/-! ### a leaf's part is a squared length -/
end Go.Proofs.Ytffnfbhhjjbjbaa.V
/- What a basis is; sums of rows. -/
set_option linter.unusedVariables false
set_option linter.unusedSimpArgs false
set_option maxRecDepth 100000
namespace Go.Proofs.Ytffnfbhhjjbjbaa.V
open Go.RowKit Mt Nml
theorem g_Of_err {b : List (List Int)} {k : Nat} {r : Int} (hk : k ≤ 1048576) (hrr : ∀ i, i < b.length → (b.getD i []).length ≤ 1048576) (hbl : b.length ≤ 1048576) (hR : ShR b true r) (hr : r ≠ 0) : Fn Try.prog 15 [T.l (cL (cZi k)) b] [] [] [] (T.tup [T.st [T.c (.slice none 0 0), T.c (.slice none 0 0)], T.c (.int .i64 r)]) := by
  refine fn_of Try.func15 rfl (by show 1 ≤ 8; decide) fun cx hcx => ?_
  refine tri_sub (sl 0 rfl sn) en ?_
  refine tri_seq ?_
  refine tri_reg mixed hcx ?_ _ _
  refine nw 10 zeG ?_
  refine asg rfl ?_
  refine ⟨by kernel_rfl, ?_⟩
  refine nx (sl 0 rfl (sl 2 rfl sn)) (el 10 rfl en) ?_
  refine tri_seq ?_
  refine tri_reg mixed hcx ?_ _ _
  refine mv rfl ?_
  refine ca rfl (h := g_of_err_t hk hrr hbl hR hr) (hn := ?_)
  refine ex rfl rfl ?_
  refine ex rfl rfl ?_
  refine st rfl rfl rfl tyG rfl ?_
  refine asg rfl ?_
  refine ⟨by kernel_rfl, ?_⟩
  refine nx (sl 2 rfl (sl 3 rfl sn)) (el 10 rfl en) ?_
  refine tri_ret ?_
  repeat (first | refine pn_thenr ?_ | refine pn_blkr ?_)
  exact ret2 hcx rfl (rv_cell (c' := cx) (n := 0) rfl rfl tyG rfl) (rv_tmp rfl) (.refl _) en

theorem g_Of_no {b : List (List Int)} {k m S K : Nat} (h0 : 0 < b.length) (hb : b.length ≤ 12) (hm : ∀ i, i < b.length → (b.getD i []).length = m) (hk : k ≤ 1048576) (hm12 : m ≤ 12) (hR : ShR b true 0) (h : bld b b.length = none) (hS : ∀ i j, i < b.length → j ≤ i → zl (dotU (b.getD i []) (b.getD j []) (b.getD i []).length) ≤ S) (hK1 : bd S 12 ≤ K) (hK2 : K ≤ 137438953472) (hK3 : 2 ≤ K) : Fn Try.prog 15 [T.l (cL (cZi k)) b] [] [] [] (T.tup [T.st [T.c (.slice none 0 0), T.c (.slice none 0 0)], T.c (.int .i64 50)]) := by
  refine fn_of Try.func15 rfl (by show 1 ≤ 8; decide) fun cx hcx => ?_
  refine tri_sub (sl 0 rfl sn) en ?_
  refine tri_seq ?_
  refine tri_reg mixed hcx ?_ _ _
  refine nw 10 zeG ?_
  refine asg rfl ?_
  refine ⟨by kernel_rfl, ?_⟩
  refine nx (sl 0 rfl (sl 2 rfl sn)) (el 10 rfl en) ?_
  refine tri_seq ?_
  refine tri_reg mixed hcx ?_ _ _
  refine mv rfl ?_
  refine ca rfl (h := g_of_no_t h0 hb hm hk hm12 hR h hS hK1 hK2 hK3) (hn := ?_)
  refine ex rfl rfl ?_
  refine ex rfl rfl ?_
  refine st rfl rfl rfl tyG rfl ?_
  refine asg rfl ?_
  refine ⟨by kernel_rfl, ?_⟩
  refine nx (sl 2 rfl (sl 3 rfl sn)) (el 10 rfl en) ?_
  refine tri_ret ?_
  repeat (first | refine pn_thenr ?_ | refine pn_blkr ?_)
  exact ret2 hcx rfl (rv_cell (c' := cx) (n := 0) rfl rfl tyG rfl) (rv_tmp rfl) (.refl _) en

theorem g_Of_ok {b : List (List Int)} {D0 : List Int} {L0 : List (List Int)} {k m S K : Nat} (h0 : 0 < b.length) (hb : b.length ≤ 12) (hm : ∀ i, i < b.length → (b.getD i []).length = m) (hk : k ≤ 1048576) (hm12 : m ≤ 12) (hR : ShR b true 0) (h : bld b b.length = some (D0, L0)) (hS : ∀ i j, i < b.length → j ≤ i → zl (dotU (b.getD i []) (b.getD j []) (b.getD i []).length) ≤ S) (hK1 : bd S 12 ≤ K) (hK2 : K ≤ 137438953472) (hK3 : 2 ≤ K) : Fn Try.prog 15 [T.l (cL (cZi k)) b] [] [] [] (T.tup [T.st [T.l (cZ K) D0, T.l (cL (cZ K)) L0], T.c (.int .i64 0)]) := by
  refine fn_of Try.func15 rfl (by show 1 ≤ 8; decide) fun cx hcx => ?_
  refine tri_sub (sl 0 rfl sn) en ?_
  refine tri_seq ?_
  refine tri_reg mixed hcx ?_ _ _
  refine nw 10 zeG ?_
  refine asg rfl ?_
  refine ⟨by kernel_rfl, ?_⟩
  refine nx (sl 0 rfl (sl 2 rfl sn)) (el 10 rfl en) ?_
  refine tri_seq ?_
  refine tri_reg mixed hcx ?_ _ _
  refine mv rfl ?_
  refine ca rfl (h := g_of_ok_t h0 hb hm hk hm12 hR h hS hK1 hK2 hK3) (hn := ?_)
  refine ex rfl rfl ?_
  refine ex rfl rfl ?_
  refine st rfl rfl rfl tyG rfl ?_
  refine asg rfl ?_
  refine ⟨by kernel_rfl, ?_⟩
  refine nx (sl 2 rfl (sl 3 rfl sn)) (el 10 rfl en) ?_
  refine tri_ret ?_
  repeat (first | refine pn_thenr ?_ | refine pn_blkr ?_)
  exact ret2 hcx rfl (rv_cell (c' := cx) (n := 0) rfl rfl tyG rfl) (rv_tmp rfl) (.refl _) en

end Go.Proofs.Ytffnfbhhjjbjbaa.V
/- The law of the lengths. -/
set_option linter.unusedVariables false
set_option linter.unusedSimpArgs false
set_option maxRecDepth 100000
namespace Go.Proofs.Ytffnfbhhjjbjbaa.V
open Go.RowKit Mt Nml
theorem zl_bits {z : Int} (h : nbits z.natAbs ≤ 256) : zl z ≤ 8 := by
  unfold zl
  refine lim_le ?_
  have h1 := lt_nbits z.natAbs
  have h2 : 2 ^ nbits z.natAbs ≤ 2 ^ 256 := Nat.pow_le_pow_right (by omega) h
  have h3 : B 8 = ((2 ^ 256 : Nat) : Int) := by decide
  rw [h3]
  exact Int.ofNat_lt.2 (Nat.lt_of_lt_of_le h1 h2)
theorem ent_bits {b : List (List Int)} (h : matB b b.length ≤ 256) (i j : Nat) : zl ((b.getD i []).getD j 0) ≤ 8 := by
  by_cases hi : i < b.length
  · by_cases hj : j < (b.getD i []).length
    · exact zl_bits (Nat.le_trans (matB_at hi hj) h)
    · rw [List.getD_eq_getElem?_getD (l := b.getD i []), List.getElem?_eq_none (by omega)]
      show zl 0 ≤ 8
      rw [zl_zero]; omega
  · rw [List.getD_eq_getElem?_getD (l := b), List.getElem?_eq_none (by omega)]
    show zl (([] : List Int).getD j 0) ≤ 8
    rw [show ([] : List Int).getD j 0 = 0 from by simp, zl_zero]; omega
theorem val_S {b : List (List Int)} (h : matB b b.length ≤ 256) (hr : ∀ i, i < b.length → (b.getD i []).length ≤ 12) : ∀ i j, i < b.length → j ≤ i → zl (dotU (b.getD i []) (b.getD j []) (b.getD i []).length) ≤ 204 := fun i j hi hj =>
  Nat.le_trans (zl_dotU (ent_bits h i) (ent_bits h j) _) (Nat.le_trans (Nat.mul_le_mul_right _ (hr i hi)) (by decide))
theorem shr_zero {b : List (List Int)} {q : Bool} (h : ShR b q 0) : ¬ BigB b q ∧ b.length ≠ 0 ∧ ¬ BadB b := by
  have h1 : ¬ BigB b q := fun k => by have := h.big k; omega
  have h2 : b.length ≠ 0 := fun k => by have := h.nil h1 k; omega
  exact ⟨h1, h2, fun k => by have := h.bad h1 h2 k; omega⟩
/-- Rows that may be a basis, but for dependence. -/
theorem shr_basis {b : List (List Int)} (h : ShR b true 0) : 0 < b.length ∧ b.length ≤ 12 ∧ (∀ i, i < b.length → (b.getD i []).length = (b.getD 0 []).length) ∧ (b.getD 0 []).length ≤ 12 ∧ matB b b.length ≤ 256 := by
  obtain ⟨h1, h2, h3⟩ := shr_zero h
  refine ⟨by omega, Nat.not_lt.1 fun k => h1 (.inl k), fun i hi => Decidable.not_not.1 fun e => h3 ⟨i, hi, e⟩, Nat.not_lt.1 fun k => h1 (.inr (.inr ⟨0, by omega, k⟩)), Nat.not_lt.1 fun k => h1 (.inr (.inl ⟨rfl, k⟩))⟩
theorem g_le {D : List Int} {L : List (List Int)} {K : Nat} : (T.st [T.l (cZ K) D, T.l (cL (cZ K)) L]).le (T.G D L K) := st_le (l := [T.l (cZ K) D, T.l (cL (cZ K)) L]) (l' := [T.l (cZi K) D, T.l (cL (cZi K)) L]) ⟨tl_le (fun z => z_zi z K) D, tl_le (fun r => tl_le (fun z => z_zi z K) r) L, trivial⟩
theorem g_mono {D : List Int} {L : List (List Int)} {K K' : Nat} (h : K ≤ K') : (T.G D L K).le (T.G D L K') := st_le (l := [T.l (cZi K) D, T.l (cL (cZi K)) L]) (l' := [T.l (cZi K') D, T.l (cL (cZi K')) L]) ⟨tl_le (fun z => zi_mono h) D, tl_le (fun r => tl_le (fun z => zi_mono h) r) L, trivial⟩
theorem sb_bound {n k : Nat} (h : n ≤ 12) (hk : k ≤ 1048576) : n * (k + k + 1) + (2 * (k + k + n) + 1) ≤ 33554432 := by
  have := Nat.mul_le_mul h (show k + k + 1 ≤ 2097153 by omega)
  omega
theorem li_mono {x : List Int} {k k' : Nat} (h : k ≤ k') : (T.l (cZi k) x).le (T.l (cZi k') x) := tl_le (fun z => zi_mono h) x

end Go.Proofs.Ytffnfbhhjjbjbaa.V
/- A filter over data and a target: norms. -/
set_option linter.unusedVariables false
set_option linter.unusedSimpArgs false
set_option maxRecDepth 100000
namespace Go.Proofs.Ytffnfbhhjjbjbaa.V
open Go.RowKit Mt Nml
theorem fnc_le {f : FuncId} : (T.c (.func (.func f) #[] #[])).le (T.fn f []) := fun β u v h => ⟨[], h, trivial⟩
theorem take_snoc {α : Type} {l : List α} {i : Nat} {d : α} (h : i < l.length) : l.take i ++ [l.getD i d] = l.take (i + 1) := by
  rw [List.getD_eq_getElem?_getD, List.getElem?_eq_getElem h, Option.getD_some, List.take_append_getElem h]
/-- -1, 0, 1: below, the same, above. -/
def cq (x y : Rat) : Int := if x < y then -1 else if y < x then 1 else 0
theorem sgnc_q {a b c d : Int} {x y : Rat} (hb : 0 < b) (hd : 0 < d) (e : (a : Rat) / (b : Rat) = x) (e2 : (c : Rat) / (d : Rat) = y) : sgnc (a * d) (c * b) = cq x y := by
  have hbr : (0 : Rat) < (b : Rat) := Rat.intCast_pos.2 hb
  have hdr : (0 : Rat) < (d : Rat) := Rat.intCast_pos.2 hd
  have h1 : x < y ↔ a * d < c * b := by
    rw [← e, ← e2, Rat.div_lt_iff hbr, Rat.div_def, Rat.mul_assoc, Rat.mul_comm ((d : Rat)⁻¹), ← Rat.mul_assoc, ← Rat.div_def, Rat.lt_div_iff hdr, ← Rat.intCast_mul, ← Rat.intCast_mul, Rat.intCast_lt_intCast]
  have h2 : y < x ↔ c * b < a * d := by
    rw [← e, ← e2, Rat.div_lt_iff hdr, Rat.div_def, Rat.mul_assoc, Rat.mul_comm ((b : Rat)⁻¹), ← Rat.mul_assoc, ← Rat.div_def, Rat.lt_div_iff hbr, ← Rat.intCast_mul, ← Rat.intCast_mul, Rat.intCast_lt_intCast]
  unfold cq sgnc
  simp only [h1, h2]
theorem cq_self (x : Rat) : cq x x = 0 := by
  unfold cq
  rw [if_neg Rat.lt_irrefl, if_neg Rat.lt_irrefl]

theorem rv_Cmp {x y : Rat} {k l : Nat} (hk : k ≤ 17179869184) (hl : l ≤ 17179869184) : Fn Try.prog 12 [T.V x k, T.V y l] [] [] [] (T.tup [T.c (.int .i64 (cq x y)), T.c (.int .i64 0)]) := fn_v [] fun p p1 p2 p3 p4 => fn_v [T.Qi p.1 p.2 k] (Bs := []) fun q q1 q2 q3 q4 => fn_out (rat_CmpG p1 q1 hk hl) (tup_le ⟨ci (sgnc_q p1 q1 p2 q2), .refl _, trivial⟩)

theorem f_own {l : List Int} {k : Nat} (hl : l.length ≤ 1048576) (hk : k ≤ 1099511627776) : Fn Try.prog 134 [T.l (cZi k) l] [] [] [] (T.l (cZ k) l) := by
  refine fn_of Try.func134 rfl (by show 1 ≤ 19; decide) fun cx hcx => ?_
  refine tri_sub (sl 0 rfl sn) en ?_
  refine tri_seq ?_
  refine tri_reg mixed hcx ?_ _ _
  refine asg rfl ?_
  refine ⟨by kernel_rfl, ?_⟩
  refine nx (sl 0 rfl sn) en ?_
  refine tri_seq ?_
  refine tri_reg mixed hcx ?_ _ _
  refine asg rfl ?_
  refine ⟨by kernel_rfl, ?_⟩
  refine nx (sl 0 rfl (sl 3 rfl sn)) en ?_
  refine tri_seq ?_
  refine tri_seq ?_
  refine tri_nil 3 9 29 (cZ k) rfl (by rw [hcx]; kernel_rfl) ?_
  refine tri_reg mixed hcx ?_ _ _
  refine mv rfl ?_
  refine ln slZs rfl ?_
  refine mv rfl ?_
  refine ⟨by kernel_rfl, ?_⟩
  refine nx (sl 3 rfl (sl 6 rfl (sl 7 rfl (sl 8 rfl sn)))) (el 9 rfl en) ?_
  refine tri_block ?_
  refine tri_loop (ι := Nat) (fun i => [(3, T.o 9), (6, T.l (cZi k) l), (7, T.c (.int .i64 (l.length : Int))), (8, T.c (.int .i64 (i : Int)))]) (fun i => [(9, some (Ent.row (cZ k) 29 (l.take i)))]) (fun i => l.length - i) (fun i => (i ≤ l.length)) 0 (Nat.zero_le _) (sl 3 rfl (sl 6 rfl (sl 7 rfl (sl 8 rfl sn)))) (el 9 rfl en) ?_
  rintro i hi
  refine tri_sub (sl 3 rfl (sl 6 rfl (sl 7 rfl (sl 8 rfl sn)))) (el 9 rfl en) ?_
  have htk : (l.take i).length = i := by rw [List.length_take]; omega
  refine tri_seq ?_
  refine tri_reg mixed hcx ?_ _ _
  refine clt rfl rfl rfl ?_
  refine ⟨by kernel_rfl, ?_⟩
  refine nx (sl 3 rfl (sl 6 rfl (sl 7 rfl (sl 8 rfl (sl 9 rfl sn))))) (el 9 rfl en) ?_
  refine tri_seq ?_
  refine tri_if rfl (fun hc => ?_) (fun hc => ?_)
  · have hc2 : i < l.length := by omega
    refine tri_skip ?_
    refine nx (sl 3 rfl (sl 6 rfl (sl 7 rfl (sl 8 rfl sn)))) (el 9 rfl en) ?_
    refine tri_seq ?_
    refine tri_block ?_
    refine tri_seq ?_
    refine tri_reg mixed hcx ?_ _ _
    refine ix rfl rfl slZs ⟨rfl, by omega⟩ ?_
    refine lf rfl tyZ ?_
    refine nw 412 zeZ ?_
    refine st rfl rfl rfl tyZ rfl ?_
    refine ⟨by kernel_rfl, ?_⟩
    refine nx (sl 3 rfl (sl 5 rfl (sl 6 rfl (sl 7 rfl (sl 8 rfl sn))))) (el 9 rfl (el 412 rfl en)) ?_
    refine tri_reg mixed hcx ?_ _ _
    refine mv rfl ?_
    refine ld rfl rfl tyZ rfl ?_
    refine ca rfl (h := zi_Form (by omega)) (hn := ?_)
    refine bs (c := cZ k) (xs := [l.getD i (cZi k).dflt]) slZs rfl ⟨.refl _, trivial⟩ ?_
    refine ap 514 rfl rfl rfl slZs (by simp only [List.length_cons, List.length_nil]; omega) (by decide) ?_
    refine asg rfl ?_
    refine ⟨by kernel_rfl, ?_⟩
    refine pn_blk ?_
    refine nx (sl 3 rfl (sl 6 rfl (sl 7 rfl (sl 8 rfl sn)))) (el 412 rfl (el 514 rfl en)) ?_
    refine tri_reg mixed hcx ?_ _ _
    refine ad (((i + 1 : Nat) : Int)) rfl rfl rfl (by omega) ?_
    refine mv rfl ?_
    refine ⟨by kernel_rfl, ?_⟩
    refine pn_sub (sl 3 rfl (sl 6 rfl (sl 7 rfl (sl 8 rfl sn)))) (el 412 rfl (el 514 rfl en)) ?_
    refine pn_ren 3 9 514 rfl rfl (by rw [hcx]; kernel_rfl) ?_
    exact pn_back (i + 1) (by first | omega | (dsimp only; omega)) (by omega) (sl 3 rfl (sl 6 rfl (sl 7 rfl (sl 8 rfl sn)))) (ew 9 rfl (.of (by rw [show (cZi k).dflt = 0 from rfl, take_snoc hc2])) en)
  · refine tri_exit ?_
    repeat (first | refine pn_then ?_ | refine pn_oth (by decide) ?_)
    refine pn_ex ?_
    have hin : i = l.length := by omega
    refine nx (sl 3 rfl sn) (el 9 rfl en) ?_
    refine tri_seq ?_
    refine tri_fz 9 rfl ?_
    refine tri_rd 3 9 rfl rfl ?_
    refine tri_as 3 (Z := T.l (cZ k) l) rfl (.of (by rw [hin, List.take_length])) ?_
    refine tri_reg mixed hcx ?_ _ _
    refine mv rfl ?_
    refine asg rfl ?_
    refine ⟨by kernel_rfl, ?_⟩
    refine nx (sl 2 rfl sn) en ?_
    refine tri_ret ?_
    repeat (first | refine pn_thenr ?_ | refine pn_blkr ?_)
    exact ret1 hcx rfl (rv_tmp rfl) (.refl _) en

theorem f_copied {D : List Int} {L : List (List Int)} {k : Nat} (hD : D.length ≤ 1048576) (hL : L.length ≤ 1048576) (hLr : ∀ i, i < L.length → (L.getD i []).length ≤ 1048576) (hk : k ≤ 1099511627776) : Fn Try.prog 104 [T.G D L k] [] [] [] (T.st [T.l (cZ k) D, T.l (cL (cZ k)) L]) := by
  refine fn_of Try.func104 rfl (by show 1 ≤ 29; decide) fun cx hcx => ?_
  refine tri_sub (sl 0 rfl sn) en ?_
  refine tri_seq ?_
  refine tri_reg mixed hcx ?_ _ _
  refine bxs 10 rfl ?_
  refine nw 11 zeG ?_
  refine ⟨by kernel_rfl, ?_⟩
  refine nx (sl 1 rfl (sl 2 rfl sn)) (el 10 rfl (el 11 rfl en)) ?_
  refine tri_seq ?_
  refine tri_reg mixed hcx ?_ _ _
  refine asg rfl ?_
  refine ⟨by kernel_rfl, ?_⟩
  refine nx (sl 1 rfl (sl 2 rfl (sl 3 rfl sn))) (el 10 rfl (el 11 rfl en)) ?_
  refine tri_seq ?_
  refine tri_as 3 (Z := T.fn 134 []) rfl fnc_le ?_
  refine tri_reg mixed hcx ?_ _ _
  refine mv rfl ?_
  refine fa rfl fD 0 ?_
  refine ld rfl rfl tyZs rfl ?_
  refine cf rfl rfl (f_own hD hk) (by intro a w; kernel_rfl) ?_
  refine bu stG rfl ?_
  refine nw 215 zeG ?_
  refine sts rfl rfl rfl tyG rfl ?_
  refine ⟨by kernel_rfl, ?_⟩
  refine nx (sl 1 rfl (sl 2 rfl (sl 3 rfl (sl 4 rfl sn)))) (el 10 rfl (el 11 rfl (el 215 rfl en))) ?_
  refine tri_seq ?_
  refine tri_seq ?_
  refine tri_nilb (cL (cZ k)) 22 (bl := [T.l (cZ k) D, T.c (.slice none 0 0)]) (bl' := [T.l (cZ k) D, T.o 9]) 215 9 rfl ⟨.inl ⟨rfl, by show 9 ∉ []; decide⟩, .inr ⟨rfl, rfl⟩, trivial⟩ (by rw [hcx]; kernel_rfl) ?_
  refine tri_reg mixed hcx ?_ _ _
  refine fa rfl fL 1 ?_
  refine ld rfl rfl tyZss rfl ?_
  refine ln slZss rfl ?_
  refine mv rfl ?_
  refine ⟨by kernel_rfl, ?_⟩
  refine nx (sl 2 rfl (sl 3 rfl (sl 4 rfl (sl 13 rfl (sl 14 rfl (sl 15 rfl sn)))))) (el 10 rfl (el 11 rfl (el 215 rfl (el 9 rfl en)))) ?_
  refine tri_block ?_
  refine tri_loop (ι := Nat) (fun i => [(2, T.p 11 0), (3, T.fn 134 []), (4, T.p 215 0), (13, T.l (cL (cZi k)) L), (14, T.c (.int .i64 (L.length : Int))), (15, T.c (.int .i64 (i : Int)))]) (fun i => [(11, some (Ent.box 25 [T.c (.slice none 0 0), T.c (.slice none 0 0)])), (215, some (Ent.box 25 [T.l (cZ k) D, T.o 9])), (9, some (Ent.row (cL (cZ k)) 22 (L.take i)))]) (fun i => L.length - i) (fun i => (i ≤ L.length)) 0 (Nat.zero_le _) (sl 2 rfl (sl 3 rfl (sl 4 rfl (sl 13 rfl (sl 14 rfl (sl 15 rfl sn)))))) (el 11 rfl (el 215 rfl (el 9 rfl en))) ?_
  rintro i hi
  refine tri_sub (sl 2 rfl (sl 3 rfl (sl 4 rfl (sl 13 rfl (sl 14 rfl (sl 15 rfl sn)))))) (el 11 rfl (el 215 rfl (el 9 rfl en))) ?_
  have htk : (L.take i).length = i := by rw [List.length_take]; omega
  refine tri_seq ?_
  refine tri_reg mixed hcx ?_ _ _
  refine clt rfl rfl rfl ?_
  refine ⟨by kernel_rfl, ?_⟩
  refine nx (sl 2 rfl (sl 3 rfl (sl 4 rfl (sl 13 rfl (sl 14 rfl (sl 15 rfl (sl 16 rfl sn))))))) (el 11 rfl (el 215 rfl (el 9 rfl en))) ?_
  refine tri_seq ?_
  refine tri_if rfl (fun hc => ?_) (fun hc => ?_)
  · have hc2 : i < L.length := by omega
    have hlr := hLr i hc2
    refine tri_skip ?_
    refine nx (sl 2 rfl (sl 3 rfl (sl 4 rfl (sl 13 rfl (sl 14 rfl (sl 15 rfl sn)))))) (el 11 rfl (el 215 rfl (el 9 rfl en))) ?_
    refine tri_seq ?_
    refine tri_block ?_
    refine tri_seq ?_
    refine tri_reg mixed hcx ?_ _ _
    refine ix rfl rfl slZss ⟨rfl, by omega⟩ ?_
    refine lf rfl tyZs ?_
    refine asg rfl ?_
    refine ⟨by kernel_rfl, ?_⟩
    refine nx (sl 2 rfl (sl 3 rfl (sl 4 rfl (sl 6 rfl (sl 13 rfl (sl 14 rfl (sl 15 rfl sn))))))) (el 11 rfl (el 215 rfl (el 9 rfl en))) ?_
    refine tri_reg mixed hcx ?_ _ _
    refine fa rfl fL 1 ?_
    refine ld rfl rfl tyZss rfl ?_
    refine mv rfl ?_
    refine mv rfl ?_
    refine cf rfl rfl (f_own hlr hk) (by intro a w; kernel_rfl) ?_
    refine bs (c := cL (cZ k)) (xs := [L.getD i (cL (cZi k)).dflt]) slZss rfl ⟨.refl _, trivial⟩ ?_
    refine ap 616 rfl rfl rfl slZss (by simp only [List.length_cons, List.length_nil]; omega) (by decide) ?_
    refine fa rfl fL 1 ?_
    refine st rfl rfl rfl tyZss rfl ?_
    refine ⟨by kernel_rfl, ?_⟩
    refine pn_blk ?_
    refine nx (sl 2 rfl (sl 3 rfl (sl 4 rfl (sl 13 rfl (sl 14 rfl (sl 15 rfl sn)))))) (el 11 rfl (el 215 rfl (el 616 rfl en))) ?_
    refine tri_reg mixed hcx ?_ _ _
    refine ad (((i + 1 : Nat) : Int)) rfl rfl rfl (by omega) ?_
    refine mv rfl ?_
    refine ⟨by kernel_rfl, ?_⟩
    refine pn_sub (sl 2 rfl (sl 3 rfl (sl 4 rfl (sl 13 rfl (sl 14 rfl (sl 15 rfl sn)))))) (el 11 rfl (el 215 rfl (el 616 rfl en))) ?_
    refine pn_renb (bl := [T.l (cZ k) D, T.o 616]) (bl' := [T.l (cZ k) D, T.o 9]) 215 9 616 rfl rfl ⟨.inl ⟨rfl, by show 9 ∉ []; decide⟩, .inr ⟨rfl, rfl⟩, trivial⟩ (by rw [hcx]; kernel_rfl) rfl ?_
    exact pn_back (i + 1) (by first | omega | (dsimp only; omega)) (by omega) (sl 2 rfl (sl 3 rfl (sl 4 rfl (sl 13 rfl (sl 14 rfl (sl 15 rfl sn)))))) (el 11 rfl (el 215 rfl (ew 9 rfl (.of (by rw [show (cL (cZi k)).dflt = [] from rfl, take_snoc hc2])) en)))
  · refine tri_exit ?_
    repeat (first | refine pn_then ?_ | refine pn_oth (by decide) ?_)
    refine pn_ex ?_
    have hin : i = L.length := by omega
    refine nx (sl 2 rfl (sl 4 rfl sn)) (el 11 rfl (el 215 rfl (el 9 rfl en))) ?_
    refine tri_seq ?_
    refine tri_fz 9 rfl ?_
    refine tri_rdb (bl := [T.l (cZ k) D, T.o 9]) (bl' := [T.l (cZ k) D, T.l (cL (cZ k)) (L.take i)]) 215 9 rfl rfl ⟨.inl rfl, .inr ⟨rfl, rfl⟩, trivial⟩ ?_
    refine tri_reg mixed hcx ?_ _ _
    refine ld rfl rfl tyG rfl ?_
    refine st rfl rfl rfl tyG rfl ?_
    refine ⟨by kernel_rfl, ?_⟩
    refine nx (sl 2 rfl sn) (el 11 rfl (el 215 rfl en)) ?_
    refine tri_ret ?_
    repeat (first | refine pn_thenr ?_ | refine pn_blkr ?_)
    exact ret1 hcx rfl (rv_cell (c' := cx) (n := 0) rfl rfl tyG rfl) (st_le (l := [T.l (cZ k) D, T.l (cL (cZ k)) (L.take i)]) (l' := [T.l (cZ k) D, T.l (cL (cZ k)) L]) ⟨.refl _, .of (by rw [hin, List.take_length]), trivial⟩) en

/-- The target's coefficients, one for each row. -/
def tvA (ts : List (Int × Int)) (n : Nat) : List Rat := (List.range n).map fun j => ((ts.getD j (0, 0)).1 : Rat) / ((ts.getD j (0, 0)).2 : Rat)
theorem tvA_succ {ts : List (Int × Int)} {n : Nat} : tvA ts n ++ [((ts.getD n (0, 0)).1 : Rat) / ((ts.getD n (0, 0)).2 : Rat)] = tvA ts (n + 1) := by simp [tvA, List.range_succ]
theorem tvA_len {ts : List (Int × Int)} {n : Nat} : (tvA ts n).length = n := by simp [tvA]
def tvL (ts : List (Int × Int)) (n : Nat) : List Rat := tvA ts ts.length ++ List.replicate (n - ts.length) 0
theorem rep_succ {α : Type} {A : List α} {z : α} {j : Nat} : (A ++ List.replicate j z) ++ [z] = A ++ List.replicate (j + 1) z := by rw [List.append_assoc, List.replicate_succ']
theorem tvL_at {ts : List (Int × Int)} {n j : Nat} (h : ts.length = 0 ∨ ts.length = n) (hj : j < n) : (tvL ts n).getD j 0 = aqT ts j := by
  unfold tvL aqT
  rcases h with h | h
  · rw [if_pos h, h, List.getD_eq_getElem?_getD, List.getElem?_append_right (by rw [tvA_len]; omega), tvA_len, List.getElem?_replicate]
    split <;> rfl
  · rw [if_neg (by omega), List.getD_eq_getElem?_getD, List.getElem?_append_left (by rw [tvA_len]; omega), ← List.getD_eq_getElem?_getD]
    exact rng_at (by omega)

theorem f_posed {D : List Int} {L : List (List Int)} {ts : List (Int × Int)} {k n : Nat} (hG : GoodP D L) (hLn : L.length = n) (hn : n ≤ 1048575) (htl : ts.length = 0 ∨ ts.length = n) (htp : ∀ i, i < ts.length → 0 < (ts.getD i (0, 0)).2) (hk : k ≤ 1048576) : Fn Try.prog 69 [T.G D L k, T.l (cQi k) ts] [] [] [] (T.tup [T.fp (T.st [T.st [T.l (cZ k) D, T.l (cL (cZ k)) L], T.l (cQ (k + k + 2)) (tvL ts n), T.c (.int .i64 (n : Int))]), T.c (.int .i64 0)]) := by
  refine fn_of Try.func69 rfl (by show 2 ≤ 90; decide) fun cx hcx => ?_
  refine tri_sub (sl 0 rfl (sl 1 rfl sn)) en ?_
  have hDL := hG.2.1
  have hLr : ∀ i, i < L.length → (L.getD i []).length ≤ 1048576 := fun i hi => by rw [(hG.2.2.2 i hi).1]; omega
  have h0n := hG.1
  refine tri_seq ?_
  refine tri_reg mixed hcx ?_ _ _
  refine bxs 10 rfl ?_
  refine asg rfl ?_
  refine asg rfl ?_
  refine ⟨by kernel_rfl, ?_⟩
  refine nx (sl 1 rfl (sl 2 rfl sn)) (el 10 rfl en) ?_
  refine tri_seq ?_
  refine tri_seq ?_
  refine tri_reg mixed hcx ?_ _ _
  refine ld rfl rfl tyG rfl ?_
  refine ca rfl (h := g_Star (k := k) (i := 0) (by omega) (by omega) hG hG.1) (hn := ?_)
  refine mv rfl ?_
  refine ex rfl rfl ?_
  refine ex rfl rfl ?_
  refine nw 115 zeQ ?_
  refine st rfl rfl rfl tyQ rfl ?_
  refine asg rfl ?_
  refine ⟨by kernel_rfl, ?_⟩
  refine nx (sl 1 rfl (sl 2 rfl (sl 7 rfl sn))) (el 10 rfl (el 115 rfl en)) ?_
  refine tri_seq ?_
  refine tri_reg mixed hcx ?_ _ _
  refine mv rfl ?_
  refine cne rfl rfl (decide_eq_false (by omega)) ?_
  refine ⟨by kernel_rfl, ?_⟩
  refine nx (sl 1 rfl (sl 2 rfl (sl 20 rfl sn))) (el 10 rfl (el 115 rfl en)) ?_
  refine tri_false rfl rfl ?_
  refine tri_skip ?_
  refine nx (sl 1 rfl (sl 2 rfl sn)) (el 10 rfl (el 115 rfl en)) ?_
  refine tri_seq ?_
  refine tri_reg mixed hcx ?_ _ _
  refine fa rfl fL 1 ?_
  refine ld rfl rfl tyZss rfl ?_
  refine ln slZss rfl ?_
  refine asg rfl ?_
  refine ⟨by kernel_rfl, ?_⟩
  refine nx (sl 1 rfl (sl 2 rfl (sl 8 rfl sn))) (el 10 rfl (el 115 rfl en)) ?_
  refine tri_seq ?_
  refine tri_seq ?_
  rcases htl with htl | htl
  · refine tri_reg mixed hcx ?_ _ _
    refine mv rfl ?_
    refine ln slQs rfl ?_
    refine cne rfl rfl (decide_eq_false (by omega)) ?_
    refine mv rfl ?_
    refine j_off rfl rfl rfl rfl ?_
    refine j_off rfl rfl rfl rfl ?_
    refine j_off rfl rfl rfl rfl ?_
    refine j_off rfl rfl rfl rfl ?_
    refine pk rfl rfl ?_
    refine ⟨by kernel_rfl, ?_⟩
    refine nx (sl 1 rfl (sl 2 rfl (sl 8 rfl (sl 32 rfl sn)))) (el 10 rfl (el 115 rfl en)) ?_
    refine tri_false rfl rfl ?_
    refine tri_skip ?_
    refine nx (sl 1 rfl (sl 2 rfl (sl 8 rfl sn))) (el 10 rfl (el 115 rfl en)) ?_
    refine tri_seq ?_
    refine tri_reg mixed hcx ?_ _ _
    refine ld rfl rfl tyG rfl ?_
    refine ca rfl (h := f_copied (k := k) (by omega) (by omega) hLr (by omega)) (hn := ?_)
    refine mv rfl ?_
    refine bu stPb rfl ?_
    refine bxs 714 rfl ?_
    refine asg rfl ?_
    refine ⟨by kernel_rfl, ?_⟩
    refine nx (sl 1 rfl (sl 8 rfl (sl 9 rfl sn))) (el 10 rfl (el 115 rfl (el 714 rfl en))) ?_
    refine tri_seq ?_
    refine tri_seq ?_
    refine tri_nilb (cQ (k + k + 2)) 32 (bl := [T.st [T.l (cZ k) D, T.l (cL (cZ k)) L], T.c (.slice none 0 0), T.c (.int .i64 (L.length : Int))]) (bl' := [T.st [T.l (cZ k) D, T.l (cL (cZ k)) L], T.o 9, T.c (.int .i64 (L.length : Int))]) 714 9 rfl ⟨.inl ⟨rfl, by show 9 ∉ []; decide⟩, .inr ⟨rfl, rfl⟩, .inl ⟨rfl, by show 9 ∉ []; decide⟩, trivial⟩ (by rw [hcx]; kernel_rfl) ?_
    refine tri_reg mixed hcx ?_ _ _
    refine mv rfl ?_
    refine ln slQs rfl ?_
    refine mv rfl ?_
    refine ⟨by kernel_rfl, ?_⟩
    refine nx (sl 8 rfl (sl 9 rfl (sl 38 rfl (sl 39 rfl (sl 40 rfl sn))))) (el 10 rfl (el 115 rfl (el 714 rfl (el 9 rfl en)))) ?_
    refine tri_block ?_
    refine tri_loop (ι := Nat) (fun i => [(8, T.c (.int .i64 (L.length : Int))), (9, T.p 714 0), (38, T.l (cQi k) ts), (39, T.c (.int .i64 (ts.length : Int))), (40, T.c (.int .i64 (i : Int)))]) (fun i => [(714, some (Ent.box 69 [T.st [T.l (cZ k) D, T.l (cL (cZ k)) L], T.o 9, T.c (.int .i64 (L.length : Int))])), (9, some (Ent.row (cQ (k + k + 2)) 32 (tvA ts i)))]) (fun i => ts.length - i) (fun i => (i ≤ ts.length)) 0 (Nat.zero_le _) (sl 8 rfl (sl 9 rfl (sl 38 rfl (sl 39 rfl (sl 40 rfl sn))))) (el 714 rfl (el 9 rfl en)) ?_
    rintro i hi
    refine tri_sub (sl 8 rfl (sl 9 rfl (sl 38 rfl (sl 39 rfl (sl 40 rfl sn))))) (el 714 rfl (el 9 rfl en)) ?_
    have htk := @tvA_len ts i
    refine tri_seq ?_
    refine tri_reg mixed hcx ?_ _ _
    refine clt rfl rfl rfl ?_
    refine ⟨by kernel_rfl, ?_⟩
    refine nx (sl 8 rfl (sl 9 rfl (sl 38 rfl (sl 39 rfl (sl 40 rfl (sl 41 rfl sn)))))) (el 714 rfl (el 9 rfl en)) ?_
    refine tri_seq ?_
    refine tri_if rfl (fun hc => ?_) (fun hc => ?_)
    · have hte : 0 < (ts.getD i (cQi k).dflt).2 := htp i (by omega)
      have hne : (ts.getD i (cQi k).dflt).2 ≠ 0 := by omega
      have hsg : sg (ts.getD i (cQi k).dflt).2 = 1 := sg_pos hte
      refine tri_skip ?_
      refine nx (sl 8 rfl (sl 9 rfl (sl 38 rfl (sl 39 rfl (sl 40 rfl sn))))) (el 714 rfl (el 9 rfl en)) ?_
      refine tri_seq ?_
      refine tri_block ?_
      refine tri_seq ?_
      refine tri_reg mixed hcx ?_ _ _
      refine ix rfl rfl slQs ⟨rfl, by omega⟩ ?_
      refine lf rfl tyQ ?_
      refine nw 1012 zeQ ?_
      refine sts (zz := [T.Zi (ts.getD i (cQi k).dflt).1 k, T.Zi (ts.getD i (cQi k).dflt).2 k]) rfl rfl rfl tyQ rfl ?_
      refine ⟨by kernel_rfl, ?_⟩
      refine nx (sl 8 rfl (sl 9 rfl (sl 11 rfl (sl 38 rfl (sl 39 rfl (sl 40 rfl sn)))))) (el 714 rfl (el 9 rfl (el 1012 rfl en))) ?_
      refine tri_seq ?_
      refine tri_reg mixed hcx ?_ _ _
      refine fa rfl fNum 0 ?_
      refine ld rfl rfl tyZ rfl ?_
      refine fa rfl fDen 2 ?_
      refine ld rfl rfl tyZ rfl ?_
      refine ca rfl (h := rat_Make hne (by omega) (by omega)) (hn := ?_)
      refine mv rfl ?_
      refine ex rfl rfl ?_
      refine ex rfl rfl ?_
      refine nw 1118 zeQ ?_
      refine st rfl rfl rfl tyQ rfl ?_
      refine asg rfl ?_
      refine ⟨by kernel_rfl, ?_⟩
      refine nx (sl 8 rfl (sl 9 rfl (sl 11 rfl (sl 12 rfl (sl 13 rfl (sl 38 rfl (sl 39 rfl (sl 40 rfl sn)))))))) (el 714 rfl (el 9 rfl (el 1012 rfl (el 1118 rfl en)))) ?_
      refine tri_seq ?_
      refine tri_seq ?_
      refine tri_reg mixed hcx ?_ _ _
      refine mv rfl ?_
      refine cne rfl rfl (decide_eq_false (by omega)) ?_
      refine mv rfl ?_
      refine fa rfl fDen 2 ?_ (hg := gd1)
      refine ld rfl rfl tyZ rfl ?_ (hg := gd1)
      refine ca rfl (h := zi_Sign (by omega)) (hn := ?_) (hg := gd1)
      refine cle rfl rfl (decide_eq_false (by omega)) ?_ (hg := gd1)
      refine pk rfl rfl ?_
      refine ⟨by kernel_rfl, ?_⟩
      refine nx (sl 8 rfl (sl 9 rfl (sl 12 rfl (sl 38 rfl (sl 39 rfl (sl 40 rfl (sl 59 rfl sn))))))) (el 714 rfl (el 9 rfl (el 1012 rfl (el 1118 rfl en)))) ?_
      refine tri_false rfl rfl ?_
      refine tri_skip ?_
      refine nx (sl 8 rfl (sl 9 rfl (sl 12 rfl (sl 38 rfl (sl 39 rfl (sl 40 rfl sn)))))) (el 714 rfl (el 9 rfl (el 1012 rfl (el 1118 rfl en)))) ?_
      refine tri_reg mixed hcx ?_ _ _
      refine mv rfl ?_
      refine mv rfl ?_
      refine nk rfl ?_
      refine fa rfl fPt 2 ?_
      refine ld rfl rfl tyQs rfl ?_
      refine ld rfl rfl tyQ rfl ?_
      refine bs (c := cQ (k + k + 2)) (xs := [((ts.getD i (0, 0)).1 : Rat) / ((ts.getD i (0, 0)).2 : Rat)]) slQs rfl ⟨q_eq rfl (by omega), trivial⟩ ?_
      refine ap 1417 rfl rfl rfl slQs (by simp only [List.length_cons, List.length_nil]; omega) (by decide) ?_
      refine nk rfl ?_
      refine fa rfl fPt 2 ?_
      refine st rfl rfl rfl tyQs rfl ?_
      refine ⟨by kernel_rfl, ?_⟩
      refine pn_blk ?_
      refine nx (sl 8 rfl (sl 9 rfl (sl 38 rfl (sl 39 rfl (sl 40 rfl sn))))) (el 714 rfl (el 1012 rfl (el 1118 rfl (el 1417 rfl en)))) ?_
      refine tri_reg mixed hcx ?_ _ _
      refine ad (((i + 1 : Nat) : Int)) rfl rfl rfl (by omega) ?_
      refine mv rfl ?_
      refine ⟨by kernel_rfl, ?_⟩
      refine pn_sub (sl 8 rfl (sl 9 rfl (sl 38 rfl (sl 39 rfl (sl 40 rfl sn))))) (el 714 rfl (el 1417 rfl en)) ?_
      refine pn_renb (bl := [T.st [T.l (cZ k) D, T.l (cL (cZ k)) L], T.o 1417, T.c (.int .i64 (L.length : Int))]) (bl' := [T.st [T.l (cZ k) D, T.l (cL (cZ k)) L], T.o 9, T.c (.int .i64 (L.length : Int))]) 714 9 1417 rfl rfl ⟨.inl ⟨rfl, by show 9 ∉ []; decide⟩, .inr ⟨rfl, rfl⟩, .inl ⟨rfl, by show 9 ∉ []; decide⟩, trivial⟩ (by rw [hcx]; kernel_rfl) rfl ?_
      exact pn_back (i + 1) (by first | omega | (dsimp only; omega)) (by omega) (sl 8 rfl (sl 9 rfl (sl 38 rfl (sl 39 rfl (sl 40 rfl sn))))) (el 714 rfl (ew 9 rfl (.of (by rw [tvA_succ])) en))
    · refine tri_exit ?_
      repeat (first | refine pn_then ?_ | refine pn_oth (by decide) ?_)
      refine pn_ex ?_
      have hin : i = ts.length := by omega
      refine nx (sl 8 rfl (sl 9 rfl sn)) (el 714 rfl (el 9 rfl en)) ?_
      refine tri_seq ?_
      refine tri_block ?_
      refine tri_loop (ι := Nat) (fun i => [(8, T.c (.int .i64 (L.length : Int))), (9, T.p 714 0)]) (fun i => [(714, some (Ent.box 69 [T.st [T.l (cZ k) D, T.l (cL (cZ k)) L], T.o 9, T.c (.int .i64 (L.length : Int))])), (9, some (Ent.row (cQ (k + k + 2)) 32 (tvA ts ts.length ++ List.replicate i 0)))]) (fun i => n - ts.length - i) (fun i => (i ≤ n - ts.length)) 0 (Nat.zero_le _) (sl 8 rfl (sl 9 rfl sn)) (el 714 rfl (ew 9 rfl (.of (by rw [hin, List.replicate_zero, List.append_nil])) en)) ?_
      rintro i hi2
      refine tri_sub (sl 8 rfl (sl 9 rfl sn)) (el 714 rfl (el 9 rfl en)) ?_
      have htk2 : (tvA ts ts.length ++ List.replicate i 0).length = ts.length + i := by rw [List.length_append, tvA_len, List.length_replicate]
      refine tri_seq ?_
      refine tri_seq ?_
      refine tri_reg mixed hcx ?_ _ _
      refine mv rfl ?_
      refine nk rfl ?_
      refine fa rfl fPt 2 ?_
      refine ld rfl rfl tyQs rfl ?_
      refine lno slQs rfl rfl ?_
      refine mv rfl ?_
      refine clt rfl rfl rfl ?_
      refine ⟨by kernel_rfl, ?_⟩
      refine nx (sl 8 rfl (sl 9 rfl (sl 77 rfl sn))) (el 714 rfl (el 9 rfl en)) ?_
      refine tri_if rfl (fun hd => ?_) (fun hd => ?_)
      · refine tri_skip ?_
        refine nx (sl 8 rfl (sl 9 rfl sn)) (el 714 rfl (el 9 rfl en)) ?_
        refine tri_block ?_
        refine tri_reg mixed hcx ?_ _ _
        refine mv rfl ?_
        refine mv rfl ?_
        refine nk rfl ?_
        refine fa rfl fPt 2 ?_
        refine ld rfl rfl tyQs rfl ?_
        refine bu stZ rfl ?_
        refine ca rfl (h := rat_Of (by omega)) (hn := ?_)
        refine bs (c := cQ (k + k + 2)) (xs := [(0 : Rat)]) slQs rfl ⟨q_eq rfl (by omega), trivial⟩ ?_
        refine ap 1718 rfl rfl rfl slQs (by simp only [List.length_cons, List.length_nil]; omega) (by decide) ?_
        refine nk rfl ?_
        refine fa rfl fPt 2 ?_
        refine st rfl rfl rfl tyQs rfl ?_
        refine ⟨by kernel_rfl, ?_⟩
        refine pn_blk ?_
        refine pn_sub (sl 8 rfl (sl 9 rfl sn)) (el 714 rfl (el 1718 rfl en)) ?_
        refine pn_renb (bl := [T.st [T.l (cZ k) D, T.l (cL (cZ k)) L], T.o 1718, T.c (.int .i64 (L.length : Int))]) (bl' := [T.st [T.l (cZ k) D, T.l (cL (cZ k)) L], T.o 9, T.c (.int .i64 (L.length : Int))]) 714 9 1718 rfl rfl ⟨.inl ⟨rfl, by show 9 ∉ []; decide⟩, .inr ⟨rfl, rfl⟩, .inl ⟨rfl, by show 9 ∉ []; decide⟩, trivial⟩ (by rw [hcx]; kernel_rfl) rfl ?_
        exact pn_back (i + 1) (by first | omega | (dsimp only; omega)) (by omega) (sl 8 rfl (sl 9 rfl sn)) (el 714 rfl (ew 9 rfl (.of (by rw [rep_succ])) en))
      · refine tri_exit ?_
        repeat (first | refine pn_then ?_ | refine pn_oth (by decide) ?_)
        refine pn_ex ?_
        have hin2 : i = n - ts.length := by omega
        refine nx (sl 9 rfl sn) (el 714 rfl (el 9 rfl en)) ?_
        refine tri_seq ?_
        refine tri_reg mixed hcx ?_ _ _
        refine mv rfl ?_
        refine asg rfl ?_
        refine asg rfl ?_
        refine ⟨by kernel_rfl, ?_⟩
        refine nx (sl 4 rfl (sl 5 rfl sn)) (el 714 rfl (el 9 rfl en)) ?_
        refine tri_fz 9 rfl ?_
        refine tri_rdb (bl := [T.st [T.l (cZ k) D, T.l (cL (cZ k)) L], T.o 9, T.c (.int .i64 (L.length : Int))]) (bl' := [T.st [T.l (cZ k) D, T.l (cL (cZ k)) L], T.l (cQ (k + k + 2)) (tvA ts ts.length ++ List.replicate i 0), T.c (.int .i64 (L.length : Int))]) 714 9 rfl rfl ⟨.inl rfl, .inr ⟨rfl, rfl⟩, .inl rfl, trivial⟩ ?_
        refine tri_fzb 4 714 rfl rfl (by show (4 : Nat) ≠ 0; decide) ?_
        refine tri_ret ?_
        repeat (first | refine pn_thenr ?_ | refine pn_blkr ?_)
        exact ret2 hcx rfl (rv_tmp rfl) (rv_tmp rfl) (tup_le ⟨.of (by rw [hin2, hLn]; rfl), .refl _, trivial⟩) en
  · have htz : ts.length ≠ 0 := by omega
    refine tri_reg mixed hcx ?_ _ _
    refine mv rfl ?_
    refine ln slQs rfl ?_
    refine cne rfl rfl (decide_eq_true (by omega)) ?_
    refine mv rfl ?_
    refine mv rfl ?_ (hg := gd1)
    refine ln slQs rfl ?_ (hg := gd1)
    refine mv rfl ?_ (hg := gd1)
    refine cne rfl rfl (decide_eq_false (by omega)) ?_ (hg := gd1)
    refine pk rfl rfl ?_
    refine ⟨by kernel_rfl, ?_⟩
    refine nx (sl 1 rfl (sl 2 rfl (sl 8 rfl (sl 32 rfl sn)))) (el 10 rfl (el 115 rfl en)) ?_
    refine tri_false rfl rfl ?_
    refine tri_skip ?_
    refine nx (sl 1 rfl (sl 2 rfl (sl 8 rfl sn))) (el 10 rfl (el 115 rfl en)) ?_
    refine tri_seq ?_
    refine tri_reg mixed hcx ?_ _ _
    refine ld rfl rfl tyG rfl ?_
    refine ca rfl (h := f_copied (k := k) (by omega) (by omega) hLr (by omega)) (hn := ?_)
    refine mv rfl ?_
    refine bu stPb rfl ?_
    refine bxs 714 rfl ?_
    refine asg rfl ?_
    refine ⟨by kernel_rfl, ?_⟩
    refine nx (sl 1 rfl (sl 8 rfl (sl 9 rfl sn))) (el 10 rfl (el 115 rfl (el 714 rfl en))) ?_
    refine tri_seq ?_
    refine tri_seq ?_
    refine tri_nilb (cQ (k + k + 2)) 32 (bl := [T.st [T.l (cZ k) D, T.l (cL (cZ k)) L], T.c (.slice none 0 0), T.c (.int .i64 (L.length : Int))]) (bl' := [T.st [T.l (cZ k) D, T.l (cL (cZ k)) L], T.o 9, T.c (.int .i64 (L.length : Int))]) 714 9 rfl ⟨.inl ⟨rfl, by show 9 ∉ []; decide⟩, .inr ⟨rfl, rfl⟩, .inl ⟨rfl, by show 9 ∉ []; decide⟩, trivial⟩ (by rw [hcx]; kernel_rfl) ?_
    refine tri_reg mixed hcx ?_ _ _
    refine mv rfl ?_
    refine ln slQs rfl ?_
    refine mv rfl ?_
    refine ⟨by kernel_rfl, ?_⟩
    refine nx (sl 8 rfl (sl 9 rfl (sl 38 rfl (sl 39 rfl (sl 40 rfl sn))))) (el 10 rfl (el 115 rfl (el 714 rfl (el 9 rfl en)))) ?_
    refine tri_block ?_
    refine tri_loop (ι := Nat) (fun i => [(8, T.c (.int .i64 (L.length : Int))), (9, T.p 714 0), (38, T.l (cQi k) ts), (39, T.c (.int .i64 (ts.length : Int))), (40, T.c (.int .i64 (i : Int)))]) (fun i => [(714, some (Ent.box 69 [T.st [T.l (cZ k) D, T.l (cL (cZ k)) L], T.o 9, T.c (.int .i64 (L.length : Int))])), (9, some (Ent.row (cQ (k + k + 2)) 32 (tvA ts i)))]) (fun i => ts.length - i) (fun i => (i ≤ ts.length)) 0 (Nat.zero_le _) (sl 8 rfl (sl 9 rfl (sl 38 rfl (sl 39 rfl (sl 40 rfl sn))))) (el 714 rfl (el 9 rfl en)) ?_
    rintro i hi
    refine tri_sub (sl 8 rfl (sl 9 rfl (sl 38 rfl (sl 39 rfl (sl 40 rfl sn))))) (el 714 rfl (el 9 rfl en)) ?_
    have htk := @tvA_len ts i
    refine tri_seq ?_
    refine tri_reg mixed hcx ?_ _ _
    refine clt rfl rfl rfl ?_
    refine ⟨by kernel_rfl, ?_⟩
    refine nx (sl 8 rfl (sl 9 rfl (sl 38 rfl (sl 39 rfl (sl 40 rfl (sl 41 rfl sn)))))) (el 714 rfl (el 9 rfl en)) ?_
    refine tri_seq ?_
    refine tri_if rfl (fun hc => ?_) (fun hc => ?_)
    · have hte : 0 < (ts.getD i (cQi k).dflt).2 := htp i (by omega)
      have hne : (ts.getD i (cQi k).dflt).2 ≠ 0 := by omega
      have hsg : sg (ts.getD i (cQi k).dflt).2 = 1 := sg_pos hte
      refine tri_skip ?_
      refine nx (sl 8 rfl (sl 9 rfl (sl 38 rfl (sl 39 rfl (sl 40 rfl sn))))) (el 714 rfl (el 9 rfl en)) ?_
      refine tri_seq ?_
      refine tri_block ?_
      refine tri_seq ?_
      refine tri_reg mixed hcx ?_ _ _
      refine ix rfl rfl slQs ⟨rfl, by omega⟩ ?_
      refine lf rfl tyQ ?_
      refine nw 1012 zeQ ?_
      refine sts (zz := [T.Zi (ts.getD i (cQi k).dflt).1 k, T.Zi (ts.getD i (cQi k).dflt).2 k]) rfl rfl rfl tyQ rfl ?_
      refine ⟨by kernel_rfl, ?_⟩
      refine nx (sl 8 rfl (sl 9 rfl (sl 11 rfl (sl 38 rfl (sl 39 rfl (sl 40 rfl sn)))))) (el 714 rfl (el 9 rfl (el 1012 rfl en))) ?_
      refine tri_seq ?_
      refine tri_reg mixed hcx ?_ _ _
      refine fa rfl fNum 0 ?_
      refine ld rfl rfl tyZ rfl ?_
      refine fa rfl fDen 2 ?_
      refine ld rfl rfl tyZ rfl ?_
      refine ca rfl (h := rat_Make hne (by omega) (by omega)) (hn := ?_)
      refine mv rfl ?_
      refine ex rfl rfl ?_
      refine ex rfl rfl ?_
      refine nw 1118 zeQ ?_
      refine st rfl rfl rfl tyQ rfl ?_
      refine asg rfl ?_
      refine ⟨by kernel_rfl, ?_⟩
      refine nx (sl 8 rfl (sl 9 rfl (sl 11 rfl (sl 12 rfl (sl 13 rfl (sl 38 rfl (sl 39 rfl (sl 40 rfl sn)))))))) (el 714 rfl (el 9 rfl (el 1012 rfl (el 1118 rfl en)))) ?_
      refine tri_seq ?_
      refine tri_seq ?_
      refine tri_reg mixed hcx ?_ _ _
      refine mv rfl ?_
      refine cne rfl rfl (decide_eq_false (by omega)) ?_
      refine mv rfl ?_
      refine fa rfl fDen 2 ?_ (hg := gd1)
      refine ld rfl rfl tyZ rfl ?_ (hg := gd1)
      refine ca rfl (h := zi_Sign (by omega)) (hn := ?_) (hg := gd1)
      refine cle rfl rfl (decide_eq_false (by omega)) ?_ (hg := gd1)
      refine pk rfl rfl ?_
      refine ⟨by kernel_rfl, ?_⟩
      refine nx (sl 8 rfl (sl 9 rfl (sl 12 rfl (sl 38 rfl (sl 39 rfl (sl 40 rfl (sl 59 rfl sn))))))) (el 714 rfl (el 9 rfl (el 1012 rfl (el 1118 rfl en)))) ?_
      refine tri_false rfl rfl ?_
      refine tri_skip ?_
      refine nx (sl 8 rfl (sl 9 rfl (sl 12 rfl (sl 38 rfl (sl 39 rfl (sl 40 rfl sn)))))) (el 714 rfl (el 9 rfl (el 1012 rfl (el 1118 rfl en)))) ?_
      refine tri_reg mixed hcx ?_ _ _
      refine mv rfl ?_
      refine mv rfl ?_
      refine nk rfl ?_
      refine fa rfl fPt 2 ?_
      refine ld rfl rfl tyQs rfl ?_
      refine ld rfl rfl tyQ rfl ?_
      refine bs (c := cQ (k + k + 2)) (xs := [((ts.getD i (0, 0)).1 : Rat) / ((ts.getD i (0, 0)).2 : Rat)]) slQs rfl ⟨q_eq rfl (by omega), trivial⟩ ?_
      refine ap 1417 rfl rfl rfl slQs (by simp only [List.length_cons, List.length_nil]; omega) (by decide) ?_
      refine nk rfl ?_
      refine fa rfl fPt 2 ?_
      refine st rfl rfl rfl tyQs rfl ?_
      refine ⟨by kernel_rfl, ?_⟩
      refine pn_blk ?_
      refine nx (sl 8 rfl (sl 9 rfl (sl 38 rfl (sl 39 rfl (sl 40 rfl sn))))) (el 714 rfl (el 1012 rfl (el 1118 rfl (el 1417 rfl en)))) ?_
      refine tri_reg mixed hcx ?_ _ _
      refine ad (((i + 1 : Nat) : Int)) rfl rfl rfl (by omega) ?_
      refine mv rfl ?_
      refine ⟨by kernel_rfl, ?_⟩
      refine pn_sub (sl 8 rfl (sl 9 rfl (sl 38 rfl (sl 39 rfl (sl 40 rfl sn))))) (el 714 rfl (el 1417 rfl en)) ?_
      refine pn_renb (bl := [T.st [T.l (cZ k) D, T.l (cL (cZ k)) L], T.o 1417, T.c (.int .i64 (L.length : Int))]) (bl' := [T.st [T.l (cZ k) D, T.l (cL (cZ k)) L], T.o 9, T.c (.int .i64 (L.length : Int))]) 714 9 1417 rfl rfl ⟨.inl ⟨rfl, by show 9 ∉ []; decide⟩, .inr ⟨rfl, rfl⟩, .inl ⟨rfl, by show 9 ∉ []; decide⟩, trivial⟩ (by rw [hcx]; kernel_rfl) rfl ?_
      exact pn_back (i + 1) (by first | omega | (dsimp only; omega)) (by omega) (sl 8 rfl (sl 9 rfl (sl 38 rfl (sl 39 rfl (sl 40 rfl sn))))) (el 714 rfl (ew 9 rfl (.of (by rw [tvA_succ])) en))
    · refine tri_exit ?_
      repeat (first | refine pn_then ?_ | refine pn_oth (by decide) ?_)
      refine pn_ex ?_
      have hin : i = ts.length := by omega
      refine nx (sl 8 rfl (sl 9 rfl sn)) (el 714 rfl (el 9 rfl en)) ?_
      refine tri_seq ?_
      refine tri_block ?_
      refine tri_loop (ι := Nat) (fun i => [(8, T.c (.int .i64 (L.length : Int))), (9, T.p 714 0)]) (fun i => [(714, some (Ent.box 69 [T.st [T.l (cZ k) D, T.l (cL (cZ k)) L], T.o 9, T.c (.int .i64 (L.length : Int))])), (9, some (Ent.row (cQ (k + k + 2)) 32 (tvA ts ts.length ++ List.replicate i 0)))]) (fun i => n - ts.length - i) (fun i => (i ≤ n - ts.length)) 0 (Nat.zero_le _) (sl 8 rfl (sl 9 rfl sn)) (el 714 rfl (ew 9 rfl (.of (by rw [hin, List.replicate_zero, List.append_nil])) en)) ?_
      rintro i hi2
      refine tri_sub (sl 8 rfl (sl 9 rfl sn)) (el 714 rfl (el 9 rfl en)) ?_
      have htk2 : (tvA ts ts.length ++ List.replicate i 0).length = ts.length + i := by rw [List.length_append, tvA_len, List.length_replicate]
      refine tri_seq ?_
      refine tri_seq ?_
      refine tri_reg mixed hcx ?_ _ _
      refine mv rfl ?_
      refine nk rfl ?_
      refine fa rfl fPt 2 ?_
      refine ld rfl rfl tyQs rfl ?_
      refine lno slQs rfl rfl ?_
      refine mv rfl ?_
      refine clt rfl rfl rfl ?_
      refine ⟨by kernel_rfl, ?_⟩
      refine nx (sl 8 rfl (sl 9 rfl (sl 77 rfl sn))) (el 714 rfl (el 9 rfl en)) ?_
      refine tri_if rfl (fun hd => ?_) (fun hd => ?_)
      · refine tri_skip ?_
        refine nx (sl 8 rfl (sl 9 rfl sn)) (el 714 rfl (el 9 rfl en)) ?_
        refine tri_block ?_
        refine tri_reg mixed hcx ?_ _ _
        refine mv rfl ?_
        refine mv rfl ?_
        refine nk rfl ?_
        refine fa rfl fPt 2 ?_
        refine ld rfl rfl tyQs rfl ?_
        refine bu stZ rfl ?_
        refine ca rfl (h := rat_Of (by omega)) (hn := ?_)
        refine bs (c := cQ (k + k + 2)) (xs := [(0 : Rat)]) slQs rfl ⟨q_eq rfl (by omega), trivial⟩ ?_
        refine ap 1718 rfl rfl rfl slQs (by simp only [List.length_cons, List.length_nil]; omega) (by decide) ?_
        refine nk rfl ?_
        refine fa rfl fPt 2 ?_
        refine st rfl rfl rfl tyQs rfl ?_
        refine ⟨by kernel_rfl, ?_⟩
        refine pn_blk ?_
        refine pn_sub (sl 8 rfl (sl 9 rfl sn)) (el 714 rfl (el 1718 rfl en)) ?_
        refine pn_renb (bl := [T.st [T.l (cZ k) D, T.l (cL (cZ k)) L], T.o 1718, T.c (.int .i64 (L.length : Int))]) (bl' := [T.st [T.l (cZ k) D, T.l (cL (cZ k)) L], T.o 9, T.c (.int .i64 (L.length : Int))]) 714 9 1718 rfl rfl ⟨.inl ⟨rfl, by show 9 ∉ []; decide⟩, .inr ⟨rfl, rfl⟩, .inl ⟨rfl, by show 9 ∉ []; decide⟩, trivial⟩ (by rw [hcx]; kernel_rfl) rfl ?_
        exact pn_back (i + 1) (by first | omega | (dsimp only; omega)) (by omega) (sl 8 rfl (sl 9 rfl sn)) (el 714 rfl (ew 9 rfl (.of (by rw [rep_succ])) en))
      · refine tri_exit ?_
        repeat (first | refine pn_then ?_ | refine pn_oth (by decide) ?_)
        refine pn_ex ?_
        have hin2 : i = n - ts.length := by omega
        refine nx (sl 9 rfl sn) (el 714 rfl (el 9 rfl en)) ?_
        refine tri_seq ?_
        refine tri_reg mixed hcx ?_ _ _
        refine mv rfl ?_
        refine asg rfl ?_
        refine asg rfl ?_
        refine ⟨by kernel_rfl, ?_⟩
        refine nx (sl 4 rfl (sl 5 rfl sn)) (el 714 rfl (el 9 rfl en)) ?_
        refine tri_fz 9 rfl ?_
        refine tri_rdb (bl := [T.st [T.l (cZ k) D, T.l (cL (cZ k)) L], T.o 9, T.c (.int .i64 (L.length : Int))]) (bl' := [T.st [T.l (cZ k) D, T.l (cL (cZ k)) L], T.l (cQ (k + k + 2)) (tvA ts ts.length ++ List.replicate i 0), T.c (.int .i64 (L.length : Int))]) 714 9 rfl rfl ⟨.inl rfl, .inr ⟨rfl, rfl⟩, .inl rfl, trivial⟩ ?_
        refine tri_fzb 4 714 rfl rfl (by show (4 : Nat) ≠ 0; decide) ?_
        refine tri_ret ?_
        repeat (first | refine pn_thenr ?_ | refine pn_blkr ?_)
        exact ret2 hcx rfl (rv_tmp rfl) (rv_tmp rfl) (tup_le ⟨.of (by rw [hin2, hLn]; rfl), .refl _, trivial⟩) en

theorem f_asked {D : List Int} {L : List (List Int)} {ts : List (Int × Int)} {k n : Nat} (hG : GoodP D L) (hLn : L.length = n) (hn : n ≤ 1048575) (htl : ts.length = 0 ∨ ts.length = n) (htp : ∀ i, i < ts.length → 0 < (ts.getD i (0, 0)).2) (hk : k ≤ 1048576) {x : List Int} (hx : x.length ≤ n) : Fn Try.prog 32 [T.G D L k, T.l (cQi k) ts, T.l (cZi k) x] [] [] [] (T.tup [T.fp (T.st [T.st [T.l (cZ k) D, T.l (cL (cZ k)) L], T.l (cQ (k + k + 2)) (tvL ts n), T.c (.int .i64 (n : Int))]), T.c (.int .i64 0)]) := by
  refine fn_of Try.func32 rfl (by show 3 ≤ 37; decide) fun cx hcx => ?_
  refine tri_sub (sl 0 rfl (sl 1 rfl (sl 2 rfl sn))) en ?_
  refine tri_seq ?_
  refine tri_reg mixed hcx ?_ _ _
  refine bxs 10 rfl ?_
  refine asg rfl ?_
  refine asg rfl ?_
  refine ⟨by kernel_rfl, ?_⟩
  refine nx (sl 1 rfl (sl 2 rfl (sl 3 rfl sn))) (el 10 rfl en) ?_
  refine tri_seq ?_
  refine tri_reg mixed hcx ?_ _ _
  refine ld rfl rfl tyG rfl ?_
  refine mv rfl ?_
  refine ca rfl (h := f_posed hG hLn hn htl htp hk) (hn := ?_)
  refine mv rfl ?_
  refine ex rfl rfl ?_
  refine ex rfl rfl ?_
  refine asg rfl ?_
  refine asg rfl ?_
  refine ⟨by kernel_rfl, ?_⟩
  refine nx (sl 2 rfl (sl 3 rfl (sl 8 rfl (sl 9 rfl sn)))) (el 10 rfl en) ?_
  refine tri_seq ?_
  refine tri_seq ?_
  refine tri_reg mixed hcx ?_ _ _
  refine mv rfl ?_
  refine ceq rfl rfl (decide_eq_false (by omega)) ?_
  refine mv rfl ?_
  refine j_off rfl rfl rfl rfl ?_
  refine j_off rfl rfl rfl rfl ?_
  refine j_off rfl rfl rfl rfl ?_
  refine j_off rfl rfl rfl rfl ?_
  refine j_off rfl rfl rfl rfl ?_
  refine j_off rfl rfl rfl rfl ?_
  refine pk rfl rfl ?_
  refine ⟨by kernel_rfl, ?_⟩
  refine nx (sl 2 rfl (sl 8 rfl (sl 9 rfl (sl 25 rfl sn)))) (el 10 rfl en) ?_
  refine tri_false rfl rfl ?_
  refine tri_skip ?_
  refine nx (sl 2 rfl (sl 8 rfl (sl 9 rfl sn))) (el 10 rfl en) ?_
  refine tri_seq ?_
  refine tri_seq ?_
  refine tri_reg mixed hcx ?_ _ _
  refine mv rfl ?_
  refine cne rfl rfl (decide_eq_false (by omega)) ?_
  refine ⟨by kernel_rfl, ?_⟩
  refine nx (sl 2 rfl (sl 8 rfl (sl 9 rfl (sl 27 rfl sn)))) (el 10 rfl en) ?_
  refine tri_false rfl rfl ?_
  refine tri_skip ?_
  refine nx (sl 2 rfl (sl 8 rfl sn)) (el 10 rfl en) ?_
  refine tri_seq ?_
  refine tri_seq ?_
  refine tri_reg mixed hcx ?_ _ _
  refine mv rfl ?_
  refine ln slZs rfl ?_
  refine mv rfl ?_
  refine nk rfl ?_
  refine ff rfl fPn rfl ?_
  refine lf rfl tyI ?_
  refine cgt rfl rfl (decide_eq_false (by omega)) ?_
  refine ⟨by kernel_rfl, ?_⟩
  refine nx (sl 8 rfl (sl 35 rfl sn)) (el 10 rfl en) ?_
  refine tri_false rfl rfl ?_
  refine tri_skip ?_
  refine nx (sl 8 rfl sn) (el 10 rfl en) ?_
  refine tri_seq ?_
  refine tri_reg mixed hcx ?_ _ _
  refine mv rfl ?_
  refine asg rfl ?_
  refine asg rfl ?_
  refine ⟨by kernel_rfl, ?_⟩
  refine nx (sl 6 rfl (sl 7 rfl sn)) (el 10 rfl en) ?_
  refine tri_ret ?_
  repeat (first | refine pn_thenr ?_ | refine pn_blkr ?_)
  exact ret2 hcx rfl (rv_tmp rfl) (rv_tmp rfl) (.refl _) en

theorem f_add {x y : Rat} {k l : Nat} (hk : k ≤ 17179869184) (hl : l ≤ 17179869184) : Fn Try.prog 70 [T.V x k, T.V y l] [] [] [] (T.Q (x + y) (k + l + 1)) := by
  refine fn_of Try.func70 rfl (by show 2 ≤ 14; decide) fun cx hcx => ?_
  refine tri_sub (sl 0 rfl (sl 1 rfl sn)) en ?_
  refine tri_seq ?_
  refine tri_reg mixed hcx ?_ _ _
  refine bx 10 rfl ?_
  refine bx 11 rfl ?_
  refine nw 12 zeQ ?_
  refine ⟨by kernel_rfl, ?_⟩
  refine nx (sl 2 rfl (sl 3 rfl (sl 4 rfl sn))) (el 10 rfl (el 11 rfl (el 12 rfl en))) ?_
  refine tri_seq ?_
  refine tri_reg mixed hcx ?_ _ _
  refine ld rfl rfl tyQ rfl ?_
  refine ld rfl rfl tyQ rfl ?_
  refine cb rfl (h := rv_Add (by omega) (by omega)) (hn := ?_)
  refine mv rfl ?_
  refine ex rfl rfl ?_
  refine ex rfl rfl ?_
  refine nw 116 zeQ ?_
  refine st rfl rfl rfl tyQ rfl ?_
  refine asg rfl ?_
  refine ⟨by kernel_rfl, ?_⟩
  refine nx (sl 4 rfl (sl 5 rfl sn)) (el 10 rfl (el 11 rfl (el 12 rfl (el 116 rfl en)))) ?_
  refine tri_seq ?_
  refine tri_reg mixed hcx ?_ _ _
  refine ld rfl rfl tyQ rfl ?_
  refine st rfl rfl rfl tyQ rfl ?_
  refine ⟨by kernel_rfl, ?_⟩
  refine nx (sl 4 rfl sn) (el 10 rfl (el 11 rfl (el 12 rfl (el 116 rfl en)))) ?_
  refine tri_ret ?_
  repeat (first | refine pn_thenr ?_ | refine pn_blkr ?_)
  exact ret1 hcx rfl (rv_cell (c' := cx) (n := 0) rfl rfl tyQ rfl) (.refl _) en

theorem f_mul {x y : Rat} {k l : Nat} (hk : k ≤ 17179869184) (hl : l ≤ 17179869184) : Fn Try.prog 73 [T.V x k, T.V y l] [] [] [] (T.Q (x * y) (k + l)) := by
  refine fn_of Try.func73 rfl (by show 2 ≤ 14; decide) fun cx hcx => ?_
  refine tri_sub (sl 0 rfl (sl 1 rfl sn)) en ?_
  refine tri_seq ?_
  refine tri_reg mixed hcx ?_ _ _
  refine bx 10 rfl ?_
  refine bx 11 rfl ?_
  refine nw 12 zeQ ?_
  refine ⟨by kernel_rfl, ?_⟩
  refine nx (sl 2 rfl (sl 3 rfl (sl 4 rfl sn))) (el 10 rfl (el 11 rfl (el 12 rfl en))) ?_
  refine tri_seq ?_
  refine tri_reg mixed hcx ?_ _ _
  refine ld rfl rfl tyQ rfl ?_
  refine ld rfl rfl tyQ rfl ?_
  refine cb rfl (h := rv_Mul (by omega) (by omega)) (hn := ?_)
  refine mv rfl ?_
  refine ex rfl rfl ?_
  refine ex rfl rfl ?_
  refine nw 116 zeQ ?_
  refine st rfl rfl rfl tyQ rfl ?_
  refine asg rfl ?_
  refine ⟨by kernel_rfl, ?_⟩
  refine nx (sl 4 rfl (sl 5 rfl sn)) (el 10 rfl (el 11 rfl (el 12 rfl (el 116 rfl en)))) ?_
  refine tri_seq ?_
  refine tri_reg mixed hcx ?_ _ _
  refine ld rfl rfl tyQ rfl ?_
  refine st rfl rfl rfl tyQ rfl ?_
  refine ⟨by kernel_rfl, ?_⟩
  refine nx (sl 4 rfl sn) (el 10 rfl (el 11 rfl (el 12 rfl (el 116 rfl en)))) ?_
  refine tri_ret ?_
  repeat (first | refine pn_thenr ?_ | refine pn_blkr ?_)
  exact ret1 hcx rfl (rv_cell (c' := cx) (n := 0) rfl rfl tyQ rfl) (.refl _) en

theorem f_sub {x y : Rat} {k l : Nat} (hk : k ≤ 17179869184) (hl : l ≤ 17179869184) : Fn Try.prog 40 [T.V x k, T.V y l] [] [] [] (T.Q (x - y) (k + l + 1)) := by
  refine fn_of Try.func40 rfl (by show 2 ≤ 14; decide) fun cx hcx => ?_
  refine tri_sub (sl 0 rfl (sl 1 rfl sn)) en ?_
  refine tri_seq ?_
  refine tri_reg mixed hcx ?_ _ _
  refine bx 10 rfl ?_
  refine bx 11 rfl ?_
  refine nw 12 zeQ ?_
  refine ⟨by kernel_rfl, ?_⟩
  refine nx (sl 2 rfl (sl 3 rfl (sl 4 rfl sn))) (el 10 rfl (el 11 rfl (el 12 rfl en))) ?_
  refine tri_seq ?_
  refine tri_reg mixed hcx ?_ _ _
  refine ld rfl rfl tyQ rfl ?_
  refine ld rfl rfl tyQ rfl ?_
  refine cb rfl (h := rv_Sub (by omega) (by omega)) (hn := ?_)
  refine mv rfl ?_
  refine ex rfl rfl ?_
  refine ex rfl rfl ?_
  refine nw 116 zeQ ?_
  refine st rfl rfl rfl tyQ rfl ?_
  refine asg rfl ?_
  refine ⟨by kernel_rfl, ?_⟩
  refine nx (sl 4 rfl (sl 5 rfl sn)) (el 10 rfl (el 11 rfl (el 12 rfl (el 116 rfl en)))) ?_
  refine tri_seq ?_
  refine tri_reg mixed hcx ?_ _ _
  refine ld rfl rfl tyQ rfl ?_
  refine st rfl rfl rfl tyQ rfl ?_
  refine ⟨by kernel_rfl, ?_⟩
  refine nx (sl 4 rfl sn) (el 10 rfl (el 11 rfl (el 12 rfl (el 116 rfl en)))) ?_
  refine tri_ret ?_
  repeat (first | refine pn_thenr ?_ | refine pn_blkr ?_)
  exact ret1 hcx rfl (rv_cell (c' := cx) (n := 0) rfl rfl tyQ rfl) (.refl _) en

theorem f_mu {D : List Int} {L : List (List Int)} {ts : List (Int × Int)} {k n : Nat} (hG : GoodP D L) (hLn : L.length = n) (hn : n ≤ 1048575) (hk : k ≤ 1048576) {i j : Nat} (hi : i < n) (hj : j < i) : Fn Try.prog 105 [T.fp (T.st [T.st [T.l (cZ k) D, T.l (cL (cZ k)) L], T.l (cQ (k + k + 2)) (tvL ts n), T.c (.int .i64 (n : Int))]), T.c (.int .i64 (i : Int)), T.c (.int .i64 (j : Int))] [] [] [] (T.Q (muq D L i j) (k + k)) := by
  refine fn_of Try.func105 rfl (by show 3 ≤ 20; decide) fun cx hcx => ?_
  refine tri_sub (sl 0 rfl (sl 1 rfl (sl 2 rfl sn))) en ?_
  have hgl : (T.st [T.l (cZ k) D, T.l (cL (cZ k)) L]).le (T.G D L k) := g_le
  refine tri_seq ?_
  refine tri_reg mixed hcx ?_ _ _
  refine nw 10 zeQ ?_
  refine ⟨by kernel_rfl, ?_⟩
  refine nx (sl 0 rfl (sl 1 rfl (sl 2 rfl (sl 6 rfl sn)))) (el 10 rfl en) ?_
  refine tri_seq ?_
  refine tri_reg mixed hcx ?_ _ _
  refine mv rfl ?_
  refine nk rfl ?_
  refine ff rfl fPg rfl ?_
  refine lf rfl tyG ?_
  refine mv rfl ?_
  refine mv rfl ?_
  refine ca rfl (h := g_Mu (k := k) (by omega) (by omega) hG (show i < L.length by omega) hj) (hn := ?_)
  refine mv rfl ?_
  refine ex rfl rfl ?_
  refine ex rfl rfl ?_
  refine nw 120 zeQ ?_
  refine st rfl rfl rfl tyQ rfl ?_
  refine asg rfl ?_
  refine ⟨by kernel_rfl, ?_⟩
  refine nx (sl 6 rfl (sl 7 rfl sn)) (el 10 rfl (el 120 rfl en)) ?_
  refine tri_seq ?_
  refine tri_reg mixed hcx ?_ _ _
  refine ld rfl rfl tyQ rfl ?_
  refine st rfl rfl rfl tyQ rfl ?_
  refine ⟨by kernel_rfl, ?_⟩
  refine nx (sl 6 rfl sn) (el 10 rfl (el 120 rfl en)) ?_
  refine tri_ret ?_
  repeat (first | refine pn_thenr ?_ | refine pn_blkr ?_)
  exact ret1 hcx rfl (rv_cell (c' := cx) (n := 0) rfl rfl tyQ rfl) (.refl _) en

theorem f_star {D : List Int} {L : List (List Int)} {ts : List (Int × Int)} {k n : Nat} (hG : GoodP D L) (hLn : L.length = n) (hn : n ≤ 1048575) (hk : k ≤ 1048576) {i : Nat} (hi : i < n) : Fn Try.prog 42 [T.fp (T.st [T.st [T.l (cZ k) D, T.l (cL (cZ k)) L], T.l (cQ (k + k + 2)) (tvL ts n), T.c (.int .i64 (n : Int))]), T.c (.int .i64 (i : Int))] [] [] [] (T.Q (stq D i) (k + k)) := by
  refine fn_of Try.func42 rfl (by show 2 ≤ 17; decide) fun cx hcx => ?_
  refine tri_sub (sl 0 rfl (sl 1 rfl sn)) en ?_
  have hgl : (T.st [T.l (cZ k) D, T.l (cL (cZ k)) L]).le (T.G D L k) := g_le
  refine tri_seq ?_
  refine tri_reg mixed hcx ?_ _ _
  refine nw 10 zeQ ?_
  refine ⟨by kernel_rfl, ?_⟩
  refine nx (sl 0 rfl (sl 1 rfl (sl 4 rfl sn))) (el 10 rfl en) ?_
  refine tri_seq ?_
  refine tri_reg mixed hcx ?_ _ _
  refine mv rfl ?_
  refine nk rfl ?_
  refine ff rfl fPg rfl ?_
  refine lf rfl tyG ?_
  refine mv rfl ?_
  refine ca rfl (h := g_Star (k := k) (by omega) (by omega) hG (show i < L.length by omega)) (hn := ?_)
  refine mv rfl ?_
  refine ex rfl rfl ?_
  refine ex rfl rfl ?_
  refine nw 119 zeQ ?_
  refine st rfl rfl rfl tyQ rfl ?_
  refine asg rfl ?_
  refine ⟨by kernel_rfl, ?_⟩
  refine nx (sl 4 rfl (sl 5 rfl sn)) (el 10 rfl (el 119 rfl en)) ?_
  refine tri_seq ?_
  refine tri_reg mixed hcx ?_ _ _
  refine ld rfl rfl tyQ rfl ?_
  refine st rfl rfl rfl tyQ rfl ?_
  refine ⟨by kernel_rfl, ?_⟩
  refine nx (sl 4 rfl sn) (el 10 rfl (el 119 rfl en)) ?_
  refine tri_ret ?_
  repeat (first | refine pn_thenr ?_ | refine pn_blkr ?_)
  exact ret1 hcx rfl (rv_cell (c' := cx) (n := 0) rfl rfl tyQ rfl) (.refl _) en

/-- A suffix's number at a row, less the target's. -/
def wF (ts : List (Int × Int)) (x : List Int) (m j : Nat) : Rat := ((x.getD (m - j) 0 : Int) : Rat) - aqT ts j
def bsF (D : List Int) (L : List (List Int)) (ts : List (Int × Int)) (x : List Int) (m i : Nat) : Nat → Rat
  | 0 => 0
  | t + 1 => bsF D L ts x m i t + wF ts x m (i + 1 + t) * muq D L (i + 1 + t) i
def nmF (D : List Int) (L : List (List Int)) (ts : List (Int × Int)) (x : List Int) (m i0 : Nat) : Nat → Rat
  | 0 => 0
  | t + 1 => nmF D L ts x m i0 t + (wF ts x m (i0 + t) + bsF D L ts x m (i0 + t) (m - (i0 + t))) * (wF ts x m (i0 + t) + bsF D L ts x m (i0 + t) (m - (i0 + t))) * stq D (i0 + t)
theorem tvL_len {ts : List (Int × Int)} {n : Nat} (h : ts.length = 0 ∨ ts.length = n) : (tvL ts n).length = n := by
  unfold tvL
  rw [List.length_append, tvA_len, List.length_replicate]; omega

theorem f_shift {D : List Int} {L : List (List Int)} {ts : List (Int × Int)} {k n : Nat} {x : List Int} (htl : ts.length = 0 ∨ ts.length = n) (hn : n ≤ 1048575) (hx : x.length ≤ n) (hk : k ≤ 1048576) {j : Nat} (hj : j < n) (hjx : n - 1 - j < x.length) : Fn Try.prog 71 [T.fp (T.st [T.st [T.l (cZ k) D, T.l (cL (cZ k)) L], T.l (cQ (k + k + 2)) (tvL ts n), T.c (.int .i64 (n : Int))]), T.l (cZi k) x, T.c (.int .i64 (j : Int))] [] [] [] (T.Q (wF ts x (n - 1) j) (k + 2 + (k + k + 2) + 1)) := by
  refine fn_of Try.func71 rfl (by show 3 ≤ 26; decide) fun cx hcx => ?_
  refine tri_sub (sl 0 rfl (sl 1 rfl (sl 2 rfl sn))) en ?_
  have htvl := tvL_len htl
  refine tri_seq ?_
  refine tri_reg mixed hcx ?_ _ _
  refine nw 10 zeQ ?_
  refine ⟨by kernel_rfl, ?_⟩
  refine nx (sl 0 rfl (sl 1 rfl (sl 2 rfl (sl 6 rfl sn)))) (el 10 rfl en) ?_
  refine tri_seq ?_
  refine tri_reg mixed hcx ?_ _ _
  refine mv rfl ?_
  refine mv rfl ?_
  refine nk rfl ?_
  refine ff rfl fPn rfl ?_
  refine lf rfl tyI ?_
  refine sb _ rfl rfl rfl ⟨rfl, by omega, by omega⟩ ?_
  refine mv rfl ?_
  refine sb (((n - 1 - j : Nat) : Int)) rfl rfl rfl (by omega) ?_
  refine ix rfl rfl slZs (i := n - 1 - j) ⟨by omega, by omega⟩ ?_
  refine lf rfl tyZ ?_
  refine ca rfl (h := rat_Of (by omega)) (hn := ?_)
  refine mv rfl ?_
  refine nk rfl ?_
  refine ff rfl fPt rfl ?_
  refine lf rfl tyQs ?_
  refine mv rfl ?_
  refine ix rfl rfl slQs (i := j) ⟨rfl, by omega⟩ ?_
  refine lfx (X := T.Q (aqT ts j) (k + k + 2)) rfl tyQ (q_eq (tvL_at htl hj) (Nat.le_refl _)) ?_
  refine cb rfl (h := f_sub (by omega) (by omega)) (hn := ?_)
  refine st rfl rfl rfl tyQ rfl ?_
  refine ⟨by kernel_rfl, ?_⟩
  refine nx (sl 6 rfl sn) (el 10 rfl en) ?_
  refine tri_ret ?_
  repeat (first | refine pn_thenr ?_ | refine pn_blkr ?_)
  exact ret1 hcx rfl (rv_cell (c' := cx) (n := 0) rfl rfl tyQ rfl) (q_eq rfl (by omega)) en

theorem f_beside {D : List Int} {L : List (List Int)} {ts : List (Int × Int)} {k n : Nat} {x : List Int} (htl : ts.length = 0 ∨ ts.length = n) (hn : n ≤ 1048575) (hx : x.length ≤ n) (hk : k ≤ 1048576) (hG : GoodP D L) (hLn : L.length = n) {i : Nat} (hi : i < n) (hix : n - 1 - i ≤ x.length) {SZ : Nat} (hS : SZ ≤ 8589934592) (hQ : ∀ t, i + 1 + t ≤ n → QB (bsF D L ts x (n - 1) i t) SZ) : Fn Try.prog 72 [T.fp (T.st [T.st [T.l (cZ k) D, T.l (cL (cZ k)) L], T.l (cQ (k + k + 2)) (tvL ts n), T.c (.int .i64 (n : Int))]), T.l (cZi k) x, T.c (.int .i64 (i : Int))] [] [] [] (T.Q (bsF D L ts x (n - 1) i (n - 1 - i)) SZ) := by
  refine fn_of Try.func72 rfl (by show 3 ≤ 33; decide) fun cx hcx => ?_
  refine tri_sub (sl 0 rfl (sl 1 rfl (sl 2 rfl sn))) en ?_
  refine tri_seq ?_
  refine tri_reg mixed hcx ?_ _ _
  refine nw 10 zeQ ?_
  refine ⟨by kernel_rfl, ?_⟩
  refine nx (sl 0 rfl (sl 1 rfl (sl 2 rfl (sl 6 rfl sn)))) (el 10 rfl en) ?_
  refine tri_seq ?_
  refine tri_reg mixed hcx ?_ _ _
  refine bu stZ rfl ?_
  refine ca rfl (h := rat_Of (by omega)) (hn := ?_)
  refine nw 112 zeQ ?_
  refine st rfl rfl rfl tyQ rfl ?_
  refine ⟨by kernel_rfl, ?_⟩
  refine nx (sl 0 rfl (sl 1 rfl (sl 2 rfl (sl 6 rfl (sl 7 rfl sn))))) (el 10 rfl (el 112 rfl en)) ?_
  refine tri_seq ?_
  refine tri_seq ?_
  refine tri_reg mixed hcx ?_ _ _
  refine mv rfl ?_
  refine ad (((i + 1 + 0 : Nat) : Int)) rfl rfl rfl (by omega) ?_
  refine asg rfl ?_
  refine ⟨by kernel_rfl, ?_⟩
  refine nx (sl 0 rfl (sl 1 rfl (sl 2 rfl (sl 6 rfl (sl 7 rfl (sl 8 rfl sn)))))) (el 10 rfl (el 112 rfl en)) ?_
  refine tri_block ?_
  refine tri_loop (ι := Nat) (fun t => [(0, T.fp (T.st [T.st [T.l (cZ k) D, T.l (cL (cZ k)) L], T.l (cQ (k + k + 2)) (tvL ts n), T.c (.int .i64 (n : Int))])), (1, T.l (cZi k) x), (2, T.c (.int .i64 (i : Int))), (6, T.p 10 0), (7, T.p 112 0), (8, T.c (.int .i64 ((i + 1 + t : Nat) : Int)))]) (fun t => [(10, some (Ent.box 32 [T.c (.bool false), T.c (.slice none 0 0), T.c (.bool false), T.c (.slice none 0 0)])), (112, some (Ent.box 32 [T.Q (bsF D L ts x (n - 1) i t) SZ]))]) (fun t => n - t) (fun t => (i + 1 + t ≤ n)) 0 (by omega) (sl 0 rfl (sl 1 rfl (sl 2 rfl (sl 6 rfl (sl 7 rfl (sl 8 rfl sn)))))) (el 10 rfl (ew 112 rfl (box_q (q_qb rfl (hQ 0 (by omega)))) en)) ?_
  rintro t ht
  refine tri_sub (sl 0 rfl (sl 1 rfl (sl 2 rfl (sl 6 rfl (sl 7 rfl (sl 8 rfl sn)))))) (el 10 rfl (el 112 rfl en)) ?_
  refine tri_seq ?_
  refine tri_seq ?_
  refine tri_reg mixed hcx ?_ _ _
  refine mv rfl ?_
  refine mv rfl ?_
  refine nk rfl ?_
  refine ff rfl fPn rfl ?_
  refine lf rfl tyI ?_
  refine clt rfl rfl rfl ?_
  refine ⟨by kernel_rfl, ?_⟩
  refine nx (sl 0 rfl (sl 1 rfl (sl 2 rfl (sl 6 rfl (sl 7 rfl (sl 8 rfl (sl 18 rfl sn))))))) (el 10 rfl (el 112 rfl en)) ?_
  refine tri_if rfl (fun hc => ?_) (fun hc => ?_)
  · have hc2 : i + 1 + t < n := by omega
    refine tri_skip ?_
    refine nx (sl 0 rfl (sl 1 rfl (sl 2 rfl (sl 6 rfl (sl 7 rfl (sl 8 rfl sn)))))) (el 10 rfl (el 112 rfl en)) ?_
    refine tri_seq ?_
    refine tri_block ?_
    refine tri_reg mixed hcx ?_ _ _
    refine ld rfl rfl tyQ rfl ?_
    refine mv rfl ?_
    refine mv rfl ?_
    refine mv rfl ?_
    refine ca rfl (h := f_shift htl hn hx hk hc2 (by omega)) (hn := ?_)
    refine mv rfl ?_
    refine mv rfl ?_
    refine mv rfl ?_
    refine ca rfl (h := f_mu hG hLn hn hk hc2 (by omega)) (hn := ?_)
    refine cb rfl (h := f_mul (by omega) (by omega)) (hn := ?_)
    refine cb rfl (h := f_add (by omega) (by omega)) (hn := ?_)
    refine st rfl rfl rfl tyQ rfl ?_
    refine ⟨by kernel_rfl, ?_⟩
    refine pn_blk ?_
    refine nx (sl 0 rfl (sl 1 rfl (sl 2 rfl (sl 6 rfl (sl 7 rfl (sl 8 rfl sn)))))) (el 10 rfl (el 112 rfl en)) ?_
    refine tri_reg mixed hcx ?_ _ _
    refine mv rfl ?_
    refine ad (((i + 1 + (t + 1) : Nat) : Int)) rfl rfl rfl (by omega) ?_
    refine asg rfl ?_
    refine ⟨by kernel_rfl, ?_⟩
    exact pn_back (t + 1) (by first | omega | (dsimp only; omega)) (by omega) (sl 0 rfl (sl 1 rfl (sl 2 rfl (sl 6 rfl (sl 7 rfl (sw 8 rfl (ci (by omega)) sn)))))) (el 10 rfl (ew 112 rfl (box_q (q_qb rfl (hQ (t + 1) (by omega)))) en))
  · refine tri_exit ?_
    repeat (first | refine pn_then ?_ | refine pn_oth (by decide) ?_)
    refine pn_ex ?_
    have htn : t = n - 1 - i := by omega
    refine nx (sl 6 rfl (sl 7 rfl sn)) (el 10 rfl (el 112 rfl en)) ?_
    refine tri_seq ?_
    refine tri_reg mixed hcx ?_ _ _
    refine ld rfl rfl tyQ rfl ?_
    refine st rfl rfl rfl tyQ rfl ?_
    refine ⟨by kernel_rfl, ?_⟩
    refine nx (sl 6 rfl sn) (el 10 rfl (el 112 rfl en)) ?_
    refine tri_ret ?_
    repeat (first | refine pn_thenr ?_ | refine pn_blkr ?_)
    exact ret1 hcx rfl (rv_cell (c' := cx) (n := 0) rfl rfl tyQ rfl) (q_eq (by rw [htn]) (Nat.le_refl _)) en

theorem f_norm {D : List Int} {L : List (List Int)} {ts : List (Int × Int)} {k n : Nat} {x : List Int} (htl : ts.length = 0 ∨ ts.length = n) (hn : n ≤ 1048575) (hx : x.length ≤ n) (hk : k ≤ 1048576) (hG : GoodP D L) (hLn : L.length = n) {SZ : Nat} (hS : SZ ≤ 2147483648) (hQ : ∀ i t, n - x.length ≤ i → i + 1 + t ≤ n → QB (bsF D L ts x (n - 1) i t) SZ) (hN : ∀ t, t ≤ x.length → QB (nmF D L ts x (n - 1) (n - x.length) t) SZ) : Fn Try.prog 33 [T.fp (T.st [T.st [T.l (cZ k) D, T.l (cL (cZ k)) L], T.l (cQ (k + k + 2)) (tvL ts n), T.c (.int .i64 (n : Int))]), T.l (cZi k) x] [] [] [] (T.Q (nmF D L ts x (n - 1) (n - x.length) x.length) SZ) := by
  refine fn_of Try.func33 rfl (by show 2 ≤ 44; decide) fun cx hcx => ?_
  refine tri_sub (sl 0 rfl (sl 1 rfl sn)) en ?_
  refine tri_seq ?_
  refine tri_reg mixed hcx ?_ _ _
  refine nw 10 zeQ ?_
  refine ⟨by kernel_rfl, ?_⟩
  refine nx (sl 0 rfl (sl 1 rfl (sl 4 rfl sn))) (el 10 rfl en) ?_
  refine tri_seq ?_
  refine tri_reg mixed hcx ?_ _ _
  refine bu stZ rfl ?_
  refine ca rfl (h := rat_Of (by omega)) (hn := ?_)
  refine nw 112 zeQ ?_
  refine st rfl rfl rfl tyQ rfl ?_
  refine ⟨by kernel_rfl, ?_⟩
  refine nx (sl 0 rfl (sl 1 rfl (sl 4 rfl (sl 5 rfl sn)))) (el 10 rfl (el 112 rfl en)) ?_
  refine tri_seq ?_
  refine tri_seq ?_
  refine tri_reg mixed hcx ?_ _ _
  refine mv rfl ?_
  refine nk rfl ?_
  refine ff rfl fPn rfl ?_
  refine lf rfl tyI ?_
  refine mv rfl ?_
  refine ln slZs rfl ?_
  refine sb (((n - x.length + 0 : Nat) : Int)) rfl rfl rfl (by omega) ?_
  refine asg rfl ?_
  refine ⟨by kernel_rfl, ?_⟩
  refine nx (sl 0 rfl (sl 1 rfl (sl 4 rfl (sl 5 rfl (sl 6 rfl sn))))) (el 10 rfl (el 112 rfl en)) ?_
  refine tri_block ?_
  refine tri_loop (ι := Nat) (fun t => [(0, T.fp (T.st [T.st [T.l (cZ k) D, T.l (cL (cZ k)) L], T.l (cQ (k + k + 2)) (tvL ts n), T.c (.int .i64 (n : Int))])), (1, T.l (cZi k) x), (4, T.p 10 0), (5, T.p 112 0), (6, T.c (.int .i64 ((n - x.length + t : Nat) : Int)))]) (fun t => [(10, some (Ent.box 32 [T.c (.bool false), T.c (.slice none 0 0), T.c (.bool false), T.c (.slice none 0 0)])), (112, some (Ent.box 32 [T.Q (nmF D L ts x (n - 1) (n - x.length) t) SZ]))]) (fun t => n - t) (fun t => (t ≤ x.length)) 0 (by omega) (sl 0 rfl (sl 1 rfl (sl 4 rfl (sl 5 rfl (sl 6 rfl sn))))) (el 10 rfl (ew 112 rfl (box_q (q_qb rfl (hN 0 (by omega)))) en)) ?_
  rintro t ht
  refine tri_sub (sl 0 rfl (sl 1 rfl (sl 4 rfl (sl 5 rfl (sl 6 rfl sn))))) (el 10 rfl (el 112 rfl en)) ?_
  refine tri_seq ?_
  refine tri_seq ?_
  refine tri_reg mixed hcx ?_ _ _
  refine mv rfl ?_
  refine mv rfl ?_
  refine nk rfl ?_
  refine ff rfl fPn rfl ?_
  refine lf rfl tyI ?_
  refine clt rfl rfl rfl ?_
  refine ⟨by kernel_rfl, ?_⟩
  refine nx (sl 0 rfl (sl 1 rfl (sl 4 rfl (sl 5 rfl (sl 6 rfl (sl 22 rfl sn)))))) (el 10 rfl (el 112 rfl en)) ?_
  refine tri_if rfl (fun hc => ?_) (fun hc => ?_)
  · have hc2 : n - x.length + t < n := by omega
    refine tri_skip ?_
    refine nx (sl 0 rfl (sl 1 rfl (sl 4 rfl (sl 5 rfl (sl 6 rfl sn))))) (el 10 rfl (el 112 rfl en)) ?_
    refine tri_seq ?_
    refine tri_block ?_
    refine tri_seq ?_
    refine tri_reg mixed hcx ?_ _ _
    refine mv rfl ?_
    refine mv rfl ?_
    refine mv rfl ?_
    refine ca rfl (h := f_shift htl hn hx hk hc2 (by omega)) (hn := ?_)
    refine mv rfl ?_
    refine mv rfl ?_
    refine mv rfl ?_
    refine ca rfl (h := f_beside htl hn hx hk hG hLn hc2 (by omega) (SZ := SZ) (by omega) (fun t2 h2 => hQ _ t2 (by omega) h2)) (hn := ?_)
    refine cb rfl (h := f_add (by omega) (by omega)) (hn := ?_)
    refine nw 519 zeQ ?_
    refine st rfl rfl rfl tyQ rfl ?_
    refine ⟨by kernel_rfl, ?_⟩
    refine nx (sl 0 rfl (sl 1 rfl (sl 4 rfl (sl 5 rfl (sl 6 rfl (sl 7 rfl sn)))))) (el 10 rfl (el 112 rfl (el 519 rfl en))) ?_
    refine tri_reg mixed hcx ?_ _ _
    refine ld rfl rfl tyQ rfl ?_
    refine ld rfl rfl tyQ rfl ?_
    refine ld rfl rfl tyQ rfl ?_
    refine cb rfl (h := f_mul (by omega) (by omega)) (hn := ?_)
    refine mv rfl ?_
    refine mv rfl ?_
    refine ca rfl (h := f_star hG hLn hn hk hc2) (hn := ?_)
    refine cb rfl (h := f_mul (by omega) (by omega)) (hn := ?_)
    refine cb rfl (h := f_add (by omega) (by omega)) (hn := ?_)
    refine st rfl rfl rfl tyQ rfl ?_
    refine ⟨by kernel_rfl, ?_⟩
    refine pn_blk ?_
    refine nx (sl 0 rfl (sl 1 rfl (sl 4 rfl (sl 5 rfl (sl 6 rfl sn))))) (el 10 rfl (el 112 rfl (el 519 rfl en))) ?_
    refine tri_reg mixed hcx ?_ _ _
    refine mv rfl ?_
    refine ad (((n - x.length + (t + 1) : Nat) : Int)) rfl rfl rfl (by omega) ?_
    refine asg rfl ?_
    refine ⟨by kernel_rfl, ?_⟩
    exact pn_back (t + 1) (by first | omega | (dsimp only; omega)) (by omega) (sl 0 rfl (sl 1 rfl (sl 4 rfl (sl 5 rfl (sw 6 rfl (ci (by omega)) sn))))) (el 10 rfl (ew 112 rfl (box_q (q_qb rfl (hN (t + 1) (by omega)))) en))
  · refine tri_exit ?_
    repeat (first | refine pn_then ?_ | refine pn_oth (by decide) ?_)
    refine pn_ex ?_
    have htn : t = x.length := by omega
    refine nx (sl 4 rfl (sl 5 rfl sn)) (el 10 rfl (el 112 rfl en)) ?_
    refine tri_seq ?_
    refine tri_reg mixed hcx ?_ _ _
    refine ld rfl rfl tyQ rfl ?_
    refine st rfl rfl rfl tyQ rfl ?_
    refine ⟨by kernel_rfl, ?_⟩
    refine nx (sl 4 rfl sn) (el 10 rfl (el 112 rfl en)) ?_
    refine tri_ret ?_
    repeat (first | refine pn_thenr ?_ | refine pn_blkr ?_)
    exact ret1 hcx rfl (rv_cell (c' := cx) (n := 0) rfl rfl tyQ rfl) (q_eq (by rw [htn]) (Nat.le_refl _)) en

theorem f_Norm {D : List Int} {L : List (List Int)} {ts : List (Int × Int)} {k n : Nat} {x : List Int} (htl : ts.length = 0 ∨ ts.length = n) (hn : n ≤ 1048575) (hx : x.length ≤ n) (hk : k ≤ 1048576) (hG : GoodP D L) (hLn : L.length = n) {SZ : Nat} (hS : SZ ≤ 2147483648) (hQ : ∀ i t, n - x.length ≤ i → i + 1 + t ≤ n → QB (bsF D L ts x (n - 1) i t) SZ) (hN : ∀ t, t ≤ x.length → QB (nmF D L ts x (n - 1) (n - x.length) t) SZ) (htp : ∀ i, i < ts.length → 0 < (ts.getD i (0, 0)).2) : Fn Try.prog 8 [T.G D L k, T.l (cQi k) ts, T.l (cZi k) x] [] [] [] (T.tup [T.Q (nmF D L ts x (n - 1) (n - x.length) x.length) SZ, T.c (.int .i64 0)]) := by
  refine fn_of Try.func8 rfl (by show 3 ≤ 24; decide) fun cx hcx => ?_
  refine tri_sub (sl 0 rfl (sl 1 rfl (sl 2 rfl sn))) en ?_
  refine tri_seq ?_
  refine tri_reg mixed hcx ?_ _ _
  refine bxs 10 rfl ?_
  refine nw 11 zeQ ?_
  refine asg rfl ?_
  refine ⟨by kernel_rfl, ?_⟩
  refine nx (sl 1 rfl (sl 2 rfl (sl 3 rfl (sl 6 rfl sn)))) (el 10 rfl (el 11 rfl en)) ?_
  refine tri_seq ?_
  refine tri_reg mixed hcx ?_ _ _
  refine ld rfl rfl tyG rfl ?_
  refine mv rfl ?_
  refine mv rfl ?_
  refine ca rfl (h := f_asked hG hLn hn htl htp hk hx) (hn := ?_)
  refine mv rfl ?_
  refine ex rfl rfl ?_
  refine ex rfl rfl ?_
  refine asg rfl ?_
  refine asg rfl ?_
  refine ⟨by kernel_rfl, ?_⟩
  refine nx (sl 2 rfl (sl 6 rfl (sl 8 rfl (sl 9 rfl sn)))) (el 10 rfl (el 11 rfl en)) ?_
  refine tri_seq ?_
  refine tri_seq ?_
  refine tri_reg mixed hcx ?_ _ _
  refine mv rfl ?_
  refine cne rfl rfl (decide_eq_false (by omega)) ?_
  refine ⟨by kernel_rfl, ?_⟩
  refine nx (sl 2 rfl (sl 6 rfl (sl 8 rfl (sl 9 rfl (sl 18 rfl sn))))) (el 10 rfl (el 11 rfl en)) ?_
  refine tri_false rfl rfl ?_
  refine tri_skip ?_
  refine nx (sl 2 rfl (sl 6 rfl (sl 8 rfl sn))) (el 10 rfl (el 11 rfl en)) ?_
  refine tri_seq ?_
  refine tri_reg mixed hcx ?_ _ _
  refine mv rfl ?_
  refine mv rfl ?_
  refine ca rfl (h := f_norm htl hn hx hk hG hLn hS hQ hN) (hn := ?_)
  refine st rfl rfl rfl tyQ rfl ?_
  refine asg rfl ?_
  refine ⟨by kernel_rfl, ?_⟩
  refine nx (sl 6 rfl (sl 7 rfl sn)) (el 10 rfl (el 11 rfl en)) ?_
  refine tri_ret ?_
  repeat (first | refine pn_thenr ?_ | refine pn_blkr ?_)
  exact ret2 hcx rfl (rv_cell (c' := cx) (n := 0) rfl rfl tyQ rfl) (rv_tmp rfl) (.refl _) en

theorem f_New {D : List Int} {L : List (List Int)} {ts : List (Int × Int)} {k n : Nat} (hG : GoodP D L) (hLn : L.length = n) (hn : n ≤ 1048575) (htl : ts.length = 0 ∨ ts.length = n) (htp : ∀ i, i < ts.length → 0 < (ts.getD i (0, 0)).2) (hk : k ≤ 1048576) : Fn Try.prog 31 [T.G D L k, T.l (cQi k) ts] [] [] [] (T.tup [T.fp (T.st [T.fp (T.st [T.st [T.l (cZ k) D, T.l (cL (cZ k)) L], T.l (cQ (k + k + 2)) (tvL ts n), T.c (.int .i64 (n : Int))]), T.c (.int .u32 0), T.c (.int .i32 0), T.c (.int .u32 0), T.c (.slice none 0 0), T.c (.slice none 0 0), T.c (.slice none 0 0), T.c (.int .i64 0), T.c (.int .i64 0)]), T.c (.int .i64 0)]) := by
  refine fn_of Try.func31 rfl (by show 2 ≤ 20; decide) fun cx hcx => ?_
  refine tri_sub (sl 0 rfl (sl 1 rfl sn)) en ?_
  refine tri_seq ?_
  refine tri_reg mixed hcx ?_ _ _
  refine bxs 10 rfl ?_
  refine asg rfl ?_
  refine asg rfl ?_
  refine ⟨by kernel_rfl, ?_⟩
  refine nx (sl 1 rfl (sl 2 rfl sn)) (el 10 rfl en) ?_
  refine tri_seq ?_
  refine tri_reg mixed hcx ?_ _ _
  refine ld rfl rfl tyG rfl ?_
  refine mv rfl ?_
  refine ca rfl (h := f_posed hG hLn hn htl htp hk) (hn := ?_)
  refine mv rfl ?_
  refine ex rfl rfl ?_
  refine ex rfl rfl ?_
  refine asg rfl ?_
  refine asg rfl ?_
  refine ⟨by kernel_rfl, ?_⟩
  refine nx (sl 6 rfl (sl 7 rfl sn)) (el 10 rfl en) ?_
  refine tri_seq ?_
  refine tri_seq ?_
  refine tri_reg mixed hcx ?_ _ _
  refine mv rfl ?_
  refine cne rfl rfl (decide_eq_false (by omega)) ?_
  refine ⟨by kernel_rfl, ?_⟩
  refine nx (sl 6 rfl (sl 7 rfl (sl 15 rfl sn))) (el 10 rfl en) ?_
  refine tri_false rfl rfl ?_
  refine tri_skip ?_
  refine nx (sl 6 rfl sn) (el 10 rfl en) ?_
  refine tri_seq ?_
  refine tri_reg mixed hcx ?_ _ _
  refine mv rfl ?_
  refine bu stFi rfl ?_
  refine bxs 412 rfl ?_
  refine asg rfl ?_
  refine asg rfl ?_
  refine ⟨by kernel_rfl, ?_⟩
  refine nx (sl 4 rfl (sl 5 rfl sn)) (el 10 rfl (el 412 rfl en)) ?_
  refine tri_fzb 4 412 rfl rfl (by show (9 : Nat) ≠ 0; decide) ?_
  refine tri_ret ?_
  repeat (first | refine pn_thenr ?_ | refine pn_blkr ?_)
  exact ret2 hcx rfl (rv_tmp rfl) (rv_tmp rfl) (.refl _) en
end Go.Proofs.Ytffnfbhhjjbjbaa.V
/- The law of filters is awake. -/
set_option linter.unusedVariables false
set_option linter.unusedSimpArgs false
set_option maxRecDepth 100000
namespace Go.Proofs.Ytffnfbhhjjbjbaa.V
open Go.RowKit Mt Nml
theorem l10_eq {z : Int} {k l : Nat} (hk : k ≤ 17592186044416) : Fn Try.prog 17 [T.Z z k, T.Z z l] [] [] [] (T.c (.bool true)) := by
  refine fn_of Try.func17 rfl (by show 2 ≤ 38; decide) fun cx hcx => ?_
  refine tri_sub (sl 0 rfl (sl 1 rfl sn)) en ?_
  refine tri_z 0 rfl fun hz => ?_
  have hzl : (dig z.natAbs).length ≤ k := hz
  refine tri_seq ?_
  refine tri_reg mixed hcx ?_ _ _
  refine bxs 10 rfl ?_
  refine bxs 11 rfl ?_
  refine asg rfl ?_
  refine ⟨by kernel_rfl, ?_⟩
  refine nx (sl 2 rfl (sl 3 rfl sn)) (el 10 rfl (el 11 rfl en)) ?_
  refine tri_seq ?_
  refine tri_seq ?_
  refine tri_reg mixed hcx ?_ _ _
  refine fa rfl fNeg 0 ?_
  refine ld rfl rfl tyB rfl ?_
  refine fa rfl fNeg 0 ?_
  refine ld rfl rfl tyB rfl ?_
  refine neb (q := false) rfl rfl (by simp) ?_
  refine mv rfl ?_
  refine fa rfl fMag 1 ?_ (hg := gd1)
  refine ld rfl rfl tyLs rfl ?_ (hg := gd1)
  refine ln slLs rfl ?_ (hg := gd1)
  refine fa rfl fMag 1 ?_ (hg := gd1)
  refine ld rfl rfl tyLs rfl ?_ (hg := gd1)
  refine ln slLs rfl ?_ (hg := gd1)
  refine cne rfl rfl (decide_eq_false (by omega)) ?_ (hg := gd1)
  refine pk rfl rfl ?_
  refine ⟨by kernel_rfl, ?_⟩
  refine nx (sl 2 rfl (sl 3 rfl (sl 19 rfl sn))) (el 10 rfl (el 11 rfl en)) ?_
  refine tri_false rfl rfl ?_
  refine tri_skip ?_
  refine nx (sl 2 rfl (sl 3 rfl sn)) (el 10 rfl (el 11 rfl en)) ?_
  refine tri_seq ?_
  refine tri_seq ?_
  refine tri_reg mixed hcx ?_ _ _
  refine asg rfl ?_
  refine ⟨by kernel_rfl, ?_⟩
  refine nx (sl 2 rfl (sl 3 rfl (sl 5 rfl sn))) (el 10 rfl (el 11 rfl en)) ?_
  refine tri_block ?_
  refine tri_loop (ι := Nat) (fun i => [(2, T.p 10 0), (3, T.p 11 0), (5, T.c (.int .i64 (i : Int)))]) (fun i => [(10, some (Ent.box 29 [T.c (.bool (decide (z < 0))), T.l cU (dig (z).natAbs)])), (11, some (Ent.box 29 [T.c (.bool (decide (z < 0))), T.l cU (dig (z).natAbs)]))]) (fun i => (dig z.natAbs).length - i) (fun i => (i ≤ (dig z.natAbs).length)) 0 (Nat.zero_le _) (sl 2 rfl (sl 3 rfl (sl 5 rfl sn))) (el 10 rfl (el 11 rfl en)) ?_
  rintro i hi
  refine tri_sub (sl 2 rfl (sl 3 rfl (sl 5 rfl sn))) (el 10 rfl (el 11 rfl en)) ?_
  refine tri_seq ?_
  refine tri_seq ?_
  refine tri_reg mixed hcx ?_ _ _
  refine mv rfl ?_
  refine fa rfl fMag 1 ?_
  refine ld rfl rfl tyLs rfl ?_
  refine ln slLs rfl ?_
  refine clt rfl rfl rfl ?_
  refine ⟨by kernel_rfl, ?_⟩
  refine nx (sl 2 rfl (sl 3 rfl (sl 5 rfl (sl 24 rfl sn)))) (el 10 rfl (el 11 rfl en)) ?_
  refine tri_if rfl (fun hc => ?_) (fun hc => ?_)
  · refine tri_skip ?_
    refine nx (sl 2 rfl (sl 3 rfl (sl 5 rfl sn))) (el 10 rfl (el 11 rfl en)) ?_
    refine tri_seq ?_
    refine tri_block ?_
    refine tri_seq ?_
    refine tri_reg mixed hcx ?_ _ _
    refine fa rfl fMag 1 ?_
    refine ld rfl rfl tyLs rfl ?_
    refine mv rfl ?_
    refine ix rfl rfl slLs ⟨rfl, by omega⟩ ?_
    refine lf rfl tyU32 ?_
    refine fa rfl fMag 1 ?_
    refine ld rfl rfl tyLs rfl ?_
    refine mv rfl ?_
    refine ix rfl rfl slLs ⟨rfl, by omega⟩ ?_
    refine lf rfl tyU32 ?_
    refine cne rfl rfl (decide_eq_false (by omega)) ?_
    refine ⟨by kernel_rfl, ?_⟩
    refine nx (sl 2 rfl (sl 3 rfl (sl 5 rfl (sl 37 rfl sn)))) (el 10 rfl (el 11 rfl en)) ?_
    refine tri_false rfl rfl ?_
    refine tri_skip ?_
    refine pn_blk ?_
    refine nx (sl 2 rfl (sl 3 rfl (sl 5 rfl sn))) (el 10 rfl (el 11 rfl en)) ?_
    refine tri_reg mixed hcx ?_ _ _
    refine mv rfl ?_
    refine ad (((i + 1 : Nat) : Int)) rfl rfl rfl (by omega) ?_
    refine asg rfl ?_
    refine ⟨by kernel_rfl, ?_⟩
    exact pn_back (i + 1) (by first | omega | (dsimp only; omega)) (by omega) (sl 2 rfl (sl 3 rfl (sl 5 rfl sn))) (el 10 rfl (el 11 rfl en))
  · refine tri_exit ?_
    repeat (first | refine pn_then ?_ | refine pn_oth (by decide) ?_)
    refine pn_ex ?_
    refine nx sn (el 10 rfl (el 11 rfl en)) ?_
    refine tri_seq ?_
    refine tri_reg mixed hcx ?_ _ _
    refine asg rfl ?_
    refine ⟨by kernel_rfl, ?_⟩
    refine nx (sl 4 rfl sn) (el 10 rfl (el 11 rfl en)) ?_
    refine tri_ret ?_
    repeat (first | refine pn_thenr ?_ | refine pn_blkr ?_)
    exact ret1 hcx rfl (rv_tmp rfl) (.refl _) en

theorem l10_plain  : Fn Try.prog 30 [] [] [] [] (T.st [T.l (cZ 2) [1, 1], T.l (cL (cZ 2)) [[]]]) := by
  refine fn_of Try.func30 rfl (by show 0 ≤ 15; decide) fun cx hcx => ?_
  refine tri_sub sn en ?_
  refine tri_seq ?_
  refine tri_reg mixed hcx ?_ _ _
  refine nw 10 zeG ?_
  refine ⟨by kernel_rfl, ?_⟩
  refine nx (sl 0 rfl sn) (el 10 rfl en) ?_
  refine tri_seq ?_
  refine tri_reg mixed hcx ?_ _ _
  refine nw 110 zeG ?_
  refine ⟨by kernel_rfl, ?_⟩
  refine nx (sl 0 rfl (sl 1 rfl sn)) (el 10 rfl (el 110 rfl en)) ?_
  refine tri_seq ?_
  refine tri_reg mixed hcx ?_ _ _
  refine fa rfl fD 0 ?_
  refine ld rfl rfl tyZs rfl ?_
  refine ca rfl (h := zi_Of (by omega) (by omega)) (hn := ?_)
  refine ca rfl (h := zi_Of (by omega) (by omega)) (hn := ?_)
  refine bs (c := cZ 2) (xs := [1, 1]) slZs rfl ⟨.refl _, .refl _, trivial⟩ ?_
  refine apn (c := cZ 2) 215 rfl rfl slZs (by decide) (by decide) ?_
  refine fa rfl fD 0 ?_
  refine st rfl rfl rfl tyZs rfl ?_
  refine ⟨by kernel_rfl, ?_⟩
  refine nx (sl 0 rfl (sl 1 rfl sn)) (el 10 rfl (el 110 rfl (el 215 rfl en))) ?_
  refine tri_seq ?_
  refine tri_reg mixed hcx ?_ _ _
  refine fa rfl fL 1 ?_
  refine ld rfl rfl tyZss rfl ?_
  refine bs (c := cL (cZ 2)) (xs := [[]]) slZss rfl ⟨nil_l _, trivial⟩ ?_
  refine apn (c := cL (cZ 2)) 313 rfl rfl slZss (by decide) (by decide) ?_
  refine fa rfl fL 1 ?_
  refine st rfl rfl rfl tyZss rfl ?_
  refine ⟨by kernel_rfl, ?_⟩
  refine nx (sl 0 rfl (sl 1 rfl sn)) (el 10 rfl (el 110 rfl (el 215 rfl (el 313 rfl en)))) ?_
  refine tri_seq ?_
  refine tri_fz 215 rfl ?_
  refine tri_rdb (bl := [T.o 215, T.o 313]) (bl' := [T.l (cZ 2) [1, 1], T.o 313]) 110 215 rfl rfl ⟨.inr ⟨rfl, rfl⟩, .inl rfl, trivial⟩ ?_
  refine tri_fz 313 rfl ?_
  refine tri_rdb (bl := [T.l (cZ 2) [1, 1], T.o 313]) (bl' := [T.l (cZ 2) [1, 1], T.l (cL (cZ 2)) [[]]]) 110 313 rfl rfl ⟨.inl rfl, .inr ⟨rfl, rfl⟩, trivial⟩ ?_
  refine tri_reg mixed hcx ?_ _ _
  refine ld rfl rfl tyG rfl ?_
  refine sts rfl rfl rfl tyG rfl ?_
  refine ⟨by kernel_rfl, ?_⟩
  refine nx (sl 0 rfl sn) (el 10 rfl (el 110 rfl en)) ?_
  refine tri_ret ?_
  repeat (first | refine pn_thenr ?_ | refine pn_blkr ?_)
  exact ret1 hcx rfl (rv_cell (c' := cx) (n := 0) rfl rfl tyG rfl) (.refl _) en

theorem z_st {z : Int} {k : Nat} (h : zl z ≤ k) : (T.st [T.c (.bool (decide (z < 0))), T.l cU (dig z.natAbs)]).le (T.Z z k) := fun β u v r => ⟨(), h, r⟩
theorem wF_b {D : List Int} {L : List (List Int)} {ts : List (Int × Int)} {n k : Nat} (h : TrS D L ts n k) {x : List Int} (hx : ∀ j, zl (x.getD j 0) ≤ k) {m j : Nat} (hj : j < n) : QB (wF ts x m j) (2 * k + 4) := QB.mono (QB.sub2 (QB.int (hx (m - j))) (h.a hj)) (by omega)
theorem bsF_b {D : List Int} {L : List (List Int)} {ts : List (Int × Int)} {n k : Nat} (h : TrS D L ts n k) {x : List Int} (hx : ∀ j, zl (x.getD j 0) ≤ k) {m i : Nat} : ∀ {t : Nat}, i + 1 + t ≤ n → QB (bsF D L ts x m i t) (1 + t * (3 * k + 5))
  | 0, _ => QB.mono (QB.int (z := 0) (k := 0) (by rw [zl_zero]; exact Nat.le_refl _)) (by omega)
  | t + 1, ht => by
    have h1 := bsF_b h hx (m := m) (i := i) (t := t) (by omega)
    have h2 := QB.add2 h1 (QB.mul2 (wF_b h hx (m := m) (j := i + 1 + t) (by omega)) (h.mu (i := i + 1 + t) (j := i) (by omega) (by omega)))
    refine QB.mono h2 ?_
    have e : (t + 1) * (3 * k + 5) = t * (3 * k + 5) + (3 * k + 5) := Nat.succ_mul _ _
    omega
theorem bsF_b' {D : List Int} {L : List (List Int)} {ts : List (Int × Int)} {n k : Nat} (h : TrS D L ts n k) {x : List Int} (hx : ∀ j, zl (x.getD j 0) ≤ k) {m i t : Nat} (ht : i + 1 + t ≤ n) : QB (bsF D L ts x m i t) 67108864 := by
  have h2 := h.hk
  have h3 := h.twelve
  have h4 : t * (3 * k + 5) ≤ 11 * 3145733 := Nat.mul_le_mul (by omega) (by omega)
  exact QB.mono (bsF_b h hx ht) (by omega)
theorem nmF_b {D : List Int} {L : List (List Int)} {ts : List (Int × Int)} {n k : Nat} (h : TrS D L ts n k) {x : List Int} (hx : ∀ j, zl (x.getD j 0) ≤ k) {i0 : Nat} : ∀ {t : Nat}, i0 + t ≤ n → QB (nmF D L ts x (n - 1) i0 t) (1 + t * 142606346)
  | 0, _ => QB.mono (QB.int (z := 0) (k := 0) (by rw [zl_zero]; exact Nat.le_refl _)) (by omega)
  | t + 1, ht => by
    have h1 := nmF_b h hx (i0 := i0) (t := t) (by omega)
    have h2 := QB.add2 (wF_b h hx (m := n - 1) (j := i0 + t) (by omega)) (bsF_b' h hx (m := n - 1) (i := i0 + t) (t := n - 1 - (i0 + t)) (by omega))
    have h3 := QB.add2 h1 (QB.mul2 (QB.mul2 h2 h2) (h.st (i := i0 + t) (by omega)))
    refine QB.mono h3 ?_
    have h4 := h.hk
    have e : (t + 1) * 142606346 = t * 142606346 + 142606346 := Nat.succ_mul _ _
    omega
theorem nmF_b' {D : List Int} {L : List (List Int)} {ts : List (Int × Int)} {n k : Nat} (h : TrS D L ts n k) {x : List Int} (hx : ∀ j, zl (x.getD j 0) ≤ k) {i0 t : Nat} (ht : i0 + t ≤ n) : QB (nmF D L ts x (n - 1) i0 t) 2147483648 := by
  have h3 := h.twelve
  have h4 : t * 142606346 ≤ 12 * 142606346 := Nat.mul_le_mul_right _ (by omega)
  exact QB.mono (nmF_b h hx ht) (by omega)
/-- The norm of a suffix, of at most twelve rows. -/
theorem f_Norm12 {D : List Int} {L : List (List Int)} {ts : List (Int × Int)} {n k : Nat} {x : List Int} (h : TrS D L ts n k) (hx : ∀ j, zl (x.getD j 0) ≤ k) (hxl : x.length ≤ n) : Fn Try.prog 8 [T.G D L k, T.l (cQi k) ts, T.l (cZi k) x] [] [] [] (T.tup [T.Q (nmF D L ts x (n - 1) (n - x.length) x.length) 2147483648, T.c (.int .i64 0)]) := by
  have h3 := h.twelve
  exact f_Norm h.tl (by omega) hxl h.hk h.good h.len (Nat.le_refl _) (fun i t _ h2 => QB.mono (bsF_b' h hx h2) (by decide)) (fun t ht => nmF_b' h hx (by omega)) h.tp
theorem plain_T : TrS [1, 1] [[]] [] 1 2 where
  good := ⟨by decide, by decide, by decide, fun i hi => by rw [show i = 0 by simp at hi; omega]; decide⟩
  len := rfl
  twelve := by decide
  tl := .inl rfl
  tp := fun i hi => absurd hi (Nat.not_lt_zero _)
  zt := fun i hi => absurd hi (Nat.not_lt_zero _)
  zD := fun j => by
    match j with
    | 0 => exact Nat.le_trans zl_one (by decide)
    | 1 => exact Nat.le_trans zl_one (by decide)
    | j + 2 => rw [show ([1, 1] : List Int).getD (j + 2) 0 = 0 from rfl, zl_zero]; decide
  zL := fun i j => by
    have : ((([[]] : List (List Int)).getD j [] : List Int).getD i 0) = 0 := by
      cases j <;> rfl
    rw [this, zl_zero]; decide
  hk := by decide
theorem three_z : ∀ j, zl (([3] : List Int).getD j 0) ≤ 2 := fun j => by
  match j with
  | 0 => exact Nat.le_trans (zl_one' (by decide)) (by decide)
  | j + 1 => rw [show ([3] : List Int).getD (j + 1) 0 = 0 from rfl, zl_zero]; decide
theorem nine : nmF [1, 1] [[]] [] [3] (1 - 1) (1 - ([3] : List Int).length) ([3] : List Int).length = ((9 : Int) : Rat) := by
  show (0 : Rat) + ((((3 : Int) : Rat) - aqT [] 0) + 0) * ((((3 : Int) : Rat) - aqT [] 0) + 0) * (((1 : Int) : Rat) / ((1 : Int) : Rat)) = _
  rw [show aqT [] 0 = 0 from rfl]
  show (0 : Rat) + ((3 - 0) + 0) * ((3 - 0) + 0) * (1 / 1) = 9
  grind
theorem nine_d : dig (9 : Int).natAbs = [9] := by
  rw [show (9 : Int).natAbs = 9 from rfl]
  rw [dig_pos (by decide), show 9 / 4294967296 = 0 from rfl, dig_zero]
  rfl

theorem nine_box {et : TypeId} : (Ent.box et [T.Q ((9 : Int) : Rat) 2147483648]).le (Ent.box et [T.c (.bool false), T.l cU [9], T.Z 1 2147483648]) := fun β u w v F ⟨b, cs, h1, h2, h3, v', rest, _, ⟨cs', e1, w1, r1, _, ⟨_, _, cs1, e3, hc1⟩, e4, w2, r2, k2, hw2, e5, e6⟩, e2, e7⟩ => ⟨b, cs, h1, h2, h3, by
  subst e1 e7 e6
  rw [List.append_nil] at e2 e5
  simp only [Value.cells] at e2
  rw [e2, e4, e5, e3]
  simp only [Value.cells]
  have hc : Cells β u ([T.c (.bool false), T.l cU [9]] ++ [T.Z 1 2147483648]) (cs1 ++ w2.cells.toList) := Cells.append (by rw [← nine_d]; exact hc1) ⟨w2, [], k2, hw2, (List.append_nil _).symm, rfl⟩
  exact hc⟩

theorem l10_alive  : Fn Try.prog 7 [] [] [] [] (T.c (.bool true)) := by
  refine fn_of Try.func7 rfl (by show 0 ≤ 44; decide) fun cx hcx => ?_
  refine tri_sub sn en ?_
  have hgl : (T.st [T.l (cZ 2) [1, 1], T.l (cL (cZ 2)) [[]]]).le (T.G [1, 1] [[]] 2) := g_le
  have h9 : zl 9 ≤ 2 := Nat.le_trans (zl_one' (by decide)) (by decide)
  have hzs : (T.st [T.c (.bool false), T.l cU [9]]).le (T.Z 9 2) := by have := @z_st 9 2 h9; rw [nine_d] at this; exact this
  have hN := fn_out (f_Norm12 (x := [3]) plain_T three_z (by decide)) (tup_le (l' := [T.Q ((9 : Int) : Rat) 2147483648, T.c (.int .i64 0)]) ⟨q_eq nine (Nat.le_refl _), .refl _, trivial⟩)
  refine tri_seq ?_
  refine tri_reg mixed hcx ?_ _ _
  refine asg rfl ?_
  refine ⟨by kernel_rfl, ?_⟩
  refine nx sn en ?_
  refine tri_seq ?_
  refine tri_reg mixed hcx ?_ _ _
  refine asg rfl ?_
  refine ⟨by kernel_rfl, ?_⟩
  refine nx (sl 1 rfl sn) en ?_
  refine tri_seq ?_
  refine tri_reg mixed hcx ?_ _ _
  refine mv rfl ?_
  refine ca rfl (h := zi_Of (by omega) (by omega)) (hn := ?_)
  refine bs (c := cZ 2) (xs := [3]) slZs rfl ⟨.refl _, trivial⟩ ?_
  refine apn (c := cZ 2) 213 rfl rfl slZs (by decide) (by decide) ?_
  refine asg rfl ?_
  refine ⟨by kernel_rfl, ?_⟩
  refine nx (sl 1 rfl sn) (el 213 rfl en) ?_
  refine tri_seq ?_
  refine tri_fz 213 rfl ?_
  refine tri_rd 1 213 rfl rfl ?_
  refine tri_reg mixed hcx ?_ _ _
  refine ca rfl (h := l10_plain) (hn := ?_)
  refine mv rfl ?_
  refine ca rfl (h := hN) (hn := ?_)
  refine mv rfl ?_
  refine ex rfl rfl ?_
  refine ex rfl rfl ?_
  refine nw 316 zeQ ?_
  refine st rfl rfl rfl tyQ rfl ?_
  refine asg rfl ?_
  refine ⟨by kernel_rfl, ?_⟩
  refine nx (sl 2 rfl (sl 3 rfl sn)) (el 316 rfl en) ?_
  refine tri_seq ?_
  refine tri_reg mixed hcx ?_ _ _
  refine ca rfl (h := l10_plain) (hn := ?_)
  refine ca rfl (h := f_New plain_T.good rfl (by decide) (.inl rfl) plain_T.tp (k := 2) (by decide)) (hn := ?_)
  refine mv rfl ?_
  refine ex rfl rfl ?_
  refine ex rfl rfl ?_
  refine asg rfl ?_
  refine asg rfl ?_
  refine ⟨by kernel_rfl, ?_⟩
  refine nx (sl 2 rfl (sl 3 rfl (sl 4 rfl (sl 5 rfl sn)))) (el 316 rfl en) ?_
  refine tri_seq ?_
  refine tri_sub (sl 2 rfl (sl 3 rfl (sl 4 rfl (sl 5 rfl sn)))) (ew 316 rfl nine_box en) ?_
  refine tri_reg mixed hcx ?_ _ _
  refine mv rfl ?_
  refine ceq rfl rfl (decide_eq_true (by omega)) ?_
  refine mv rfl ?_
  refine mv rfl ?_ (hg := gd1)
  refine ceq rfl rfl (decide_eq_true (by omega)) ?_ (hg := gd1)
  refine pk rfl rfl ?_
  refine mv rfl ?_
  refine mv rfl ?_ (hg := gd1)
  refine pne rfl rfl uPF ?_ (hg := gd1)
  refine pk rfl rfl ?_
  refine mv rfl ?_
  refine fa rfl fNum 0 ?_ (hg := gd1)
  refine ld rfl rfl tyZ rfl ?_ (hg := gd1)
  refine ca rfl (h := zi_Of (by omega) (by omega)) (hn := ?_) (hg := gd1)
  refine ca rfl (h := l10_eq (z := 9) (k := 2) (l := 2) (by decide)) (hn := ?_) (hg := gd1)
  refine pk rfl rfl ?_
  refine mv rfl ?_
  refine fa rfl fNum 0 ?_ (hg := gd1)
  refine fa rfl fMag 1 ?_ (hg := gd1)
  refine ld rfl rfl tyLs rfl ?_ (hg := gd1)
  refine ln slLs rfl ?_ (hg := gd1)
  refine ceq rfl rfl (decide_eq_true rfl) ?_ (hg := gd1)
  refine pk rfl rfl ?_
  refine asg rfl ?_
  refine ⟨by kernel_rfl, ?_⟩
  refine nx (sl 0 rfl sn) (el 316 rfl en) ?_
  refine tri_ret ?_
  repeat (first | refine pn_thenr ?_ | refine pn_blkr ?_)
  exact ret1 hcx rfl (rv_tmp rfl) (.refl _) en
end Go.Proofs.Ytffnfbhhjjbjbaa.V
/- The law of the whole norm. -/
set_option linter.unusedVariables false
set_option linter.unusedSimpArgs false
set_option maxRecDepth 100000
namespace Go.Proofs.Ytffnfbhhjjbjbaa.V
open Go.RowKit Mt Nml
/-- A list from its end. -/
def rv (x : List Int) (n : Nat) : List Int := (List.range n).map fun j => x.getD (x.length - 1 - j) 0
theorem rv_succ {x : List Int} {n : Nat} : rv x n ++ [x.getD (x.length - 1 - n) 0] = rv x (n + 1) := by simp [rv, List.range_succ]
theorem rv_len {x : List Int} {n : Nat} : (rv x n).length = n := by simp [rv]
theorem rv_at {x : List Int} {n j : Nat} (h : j < n) : (rv x n).getD j 0 = x.getD (x.length - 1 - j) 0 := rng_at h
theorem rv_zl {x : List Int} {n k : Nat} (h : ∀ j, zl (x.getD j 0) ≤ k) (j : Nat) : zl ((rv x n).getD j 0) ≤ k := by
  by_cases hj : j < n
  · rw [rv_at hj]; exact h _
  · rw [List.getD_eq_getElem?_getD, List.getElem?_eq_none (by rw [rv_len]; omega)]
    show zl 0 ≤ k
    rw [zl_zero]; omega
theorem bsF_yU {D : List Int} {L : List (List Int)} {x : List Int} {n i : Nat} (hx : x.length = n) : ∀ {t : Nat}, i + 1 + t ≤ n → wF [] (rv x n) (n - 1) i + bsF D L [] (rv x n) (n - 1) i t = yU D L x i t
  | 0, h => by
    show (((rv x n).getD (n - 1 - i) 0 : Int) : Rat) - aqT [] i + 0 = ((x.getD i 0 : Int) : Rat)
    rw [rv_at (by omega), show aqT [] i = 0 from rfl, show x.length - 1 - (n - 1 - i) = i by omega]
    grind
  | t + 1, h => by
    have h1 := bsF_yU (D := D) (L := L) hx (i := i) (t := t) (by omega)
    show wF [] (rv x n) (n - 1) i + (bsF D L [] (rv x n) (n - 1) i t + wF [] (rv x n) (n - 1) (i + 1 + t) * muq D L (i + 1 + t) i) = yU D L x i t + _
    rw [← h1]
    have e : wF [] (rv x n) (n - 1) (i + 1 + t) = ((x.getD (i + 1 + t) 0 : Int) : Rat) := by
      show (((rv x n).getD (n - 1 - (i + 1 + t)) 0 : Int) : Rat) - aqT [] _ = _
      rw [rv_at (by omega), show ∀ j, aqT [] j = 0 from fun _ => rfl, show x.length - 1 - (n - 1 - (i + 1 + t)) = i + 1 + t by omega]
      grind
    rw [e, Rat.intCast_mul]
    unfold muq
    simp only [Rat.div_def]
    grind
theorem nmF_sU {D : List Int} {L : List (List Int)} {x : List Int} {n : Nat} (hx : x.length = n) : ∀ {t : Nat}, t ≤ n → nmF D L [] (rv x n) (n - 1) 0 t = sU D L x n t
  | 0, _ => rfl
  | t + 1, h => by
    show nmF D L [] (rv x n) (n - 1) 0 t + _ = sU D L x n t + _
    rw [nmF_sU hx (t := t) (by omega), Nat.zero_add, bsF_yU hx (by omega), show n - 1 - t = n - (t + 1) by omega]
    rfl
theorem nmF_len {D : List Int} {L : List (List Int)} {x : List Int} {n : Nat} (hx : x.length = n) : nmF D L [] (rv x n) (n - 1) (n - (rv x n).length) (rv x n).length = sU D L x n n := by
  rw [rv_len, Nat.sub_self]
  exact nmF_sU hx (Nat.le_refl _)
theorem int_box {et : TypeId} {V : Int} {K : Nat} : (Ent.box et [T.Q ((V : Int) : Rat) K]).le (Ent.box et [T.Z V K, T.Z 1 K]) := box_open (l := [T.Z ((V : Int) : Rat).num K, T.Z ((((V : Int) : Rat).den : Nat) : Int) K])
/-- The data of a basis as a tree's. -/
theorem data_T {b : List (List Int)} {D : List Int} {L : List (List Int)} (hR : ShR b true 0) (h : bld b b.length = some (D, L)) : TrS D L [] b.length 1048576 := by
  obtain ⟨h0, hb, hm, hm12, hbits⟩ := shr_basis hR
  have hS := val_S hbits (fun i hi => by rw [hm i hi]; exact hm12)
  have hB := bld_BI hS (Nat.le_refl _) h
  have hI := bld_DI h
  have hle : ∀ k, k ≤ 12 → bd 204 k ≤ 1048576 := fun k hk => Nat.le_trans (bd_mono hk) (by decide)
  refine ⟨hI.good h0, hI.lL, hb, .inl rfl, fun i hi => absurd hi (Nat.not_lt_zero _), fun i hi => absurd hi (Nat.not_lt_zero _), fun j => ?_, fun i j => ?_, Nat.le_refl _⟩
  · rcases Nat.lt_or_ge j (b.length + 1) with hj | hj
    · cases j with
      | zero =>
        rw [(hI.good h0).2.2.1]
        exact Nat.le_trans zl_one (by decide)
      | succ k => exact Nat.le_trans (hB.bD k (by omega)) (hle k (by omega))
    · rw [List.getD_eq_getElem?_getD, List.getElem?_eq_none (by rw [hI.lD]; exact hj)]
      show zl 0 ≤ _
      rw [zl_zero]; exact Nat.zero_le _
  · rcases Nat.lt_or_ge j b.length with hj | hj
    · rcases Nat.lt_or_ge i j with hi | hi
      · exact Nat.le_trans (hB.bL j i hj hi) (hle i (by omega))
      · rw [List.getD_eq_getElem?_getD, List.getElem?_eq_none (by rw [hI.lr j hj]; exact hi)]
        show zl 0 ≤ _
        rw [zl_zero]; exact Nat.zero_le _
    · rw [List.getD_eq_getElem?_getD (l := L), List.getElem?_eq_none (by rw [hI.lL]; exact hj)]
      show zl (([] : List Int).getD i 0) ≤ _
      rw [show ([] : List Int).getD i 0 = 0 from rfl, zl_zero]; exact Nat.zero_le _

theorem fwhole_err {b : List (List Int)} {x : List Int} {k : Nat} {r : Int} (hk : k ≤ 1048576) (hrr : ∀ i, i < b.length → (b.getD i []).length ≤ 1048576) (hbl : b.length ≤ 1048576) (hxl : x.length ≤ 1048576) (hr : r ≠ 0) (ho : Fn Try.prog 15 [T.l (cL (cZi k)) b] [] [] [] (T.tup [T.st [T.c (.slice none 0 0), T.c (.slice none 0 0)], T.c (.int .i64 r)])) : Fn Try.prog 4 [T.l (cL (cZi k)) b, T.l (cZi k) x] [] [] [] (T.c (.bool true)) := by
  refine fn_of Try.func4 rfl (by show 2 ≤ 80; decide) fun cx hcx => ?_
  refine tri_sub (sl 0 rfl (sl 1 rfl sn)) en ?_
  refine tri_seq ?_
  refine tri_reg mixed hcx ?_ _ _
  refine asg rfl ?_
  refine ⟨by kernel_rfl, ?_⟩
  refine nx (sl 0 rfl (sl 1 rfl sn)) en ?_
  refine tri_seq ?_
  refine tri_seq ?_
  refine tri_reg mixed hcx ?_ _ _
  refine ca rfl (h := l10_alive) (hn := ?_)
  refine nt rfl _ rfl ?_
  refine ⟨by kernel_rfl, ?_⟩
  refine nx (sl 0 rfl (sl 1 rfl (sl 15 rfl sn))) en ?_
  refine tri_false rfl rfl ?_
  refine tri_skip ?_
  refine nx (sl 0 rfl (sl 1 rfl sn)) en ?_
  refine tri_seq ?_
  refine tri_reg mixed hcx ?_ _ _
  refine mv rfl ?_
  refine ca rfl (h := ho) (hn := ?_)
  refine mv rfl ?_
  refine ex rfl rfl ?_
  refine ex rfl rfl ?_
  refine nw 315 zeG ?_
  refine sts rfl rfl rfl tyG rfl ?_
  refine asg rfl ?_
  refine ⟨by kernel_rfl, ?_⟩
  refine nx (sl 0 rfl (sl 1 rfl (sl 5 rfl (sl 6 rfl sn)))) (el 315 rfl en) ?_
  refine tri_seq ?_
  refine tri_seq ?_
  refine tri_reg mixed hcx ?_ _ _
  refine mv rfl ?_
  refine cne rfl rfl (decide_eq_true hr) ?_
  refine mv rfl ?_
  refine j_off rfl rfl rfl rfl ?_
  refine j_off rfl rfl rfl rfl ?_
  refine j_off rfl rfl rfl rfl ?_
  refine j_off rfl rfl rfl rfl ?_
  refine j_off rfl rfl rfl rfl ?_
  refine pk rfl rfl ?_
  refine ⟨by kernel_rfl, ?_⟩
  refine nx (sl 1 rfl (sl 5 rfl (sl 29 rfl sn))) (el 315 rfl en) ?_
  refine tri_true rfl rfl ?_
  refine tri_seq ?_
  refine tri_reg mixed hcx ?_ _ _
  refine asg rfl ?_
  refine ⟨by kernel_rfl, ?_⟩
  refine nx (sl 4 rfl sn) (el 315 rfl en) ?_
  refine tri_ret ?_
  repeat (first | refine pn_thenr ?_ | refine pn_blkr ?_)
  exact ret1 hcx rfl (rv_tmp rfl) (.refl _) en

theorem fwhole_len {b : List (List Int)} {x : List Int} {k : Nat} {D : List Int} {L : List (List Int)} (hk : k ≤ 1048576) (hrr : ∀ i, i < b.length → (b.getD i []).length ≤ 1048576) (hbl : b.length ≤ 1048576) (hxl : x.length ≤ 1048576) (ho : Fn Try.prog 15 [T.l (cL (cZi k)) b] [] [] [] (T.tup [T.st [T.l (cZ 839679) D, T.l (cL (cZ 839679)) L], T.c (.int .i64 0)])) (hx : x.length ≠ b.length) : Fn Try.prog 4 [T.l (cL (cZi k)) b, T.l (cZi k) x] [] [] [] (T.c (.bool true)) := by
  refine fn_of Try.func4 rfl (by show 2 ≤ 80; decide) fun cx hcx => ?_
  refine tri_sub (sl 0 rfl (sl 1 rfl sn)) en ?_
  refine tri_seq ?_
  refine tri_reg mixed hcx ?_ _ _
  refine asg rfl ?_
  refine ⟨by kernel_rfl, ?_⟩
  refine nx (sl 0 rfl (sl 1 rfl sn)) en ?_
  refine tri_seq ?_
  refine tri_seq ?_
  refine tri_reg mixed hcx ?_ _ _
  refine ca rfl (h := l10_alive) (hn := ?_)
  refine nt rfl _ rfl ?_
  refine ⟨by kernel_rfl, ?_⟩
  refine nx (sl 0 rfl (sl 1 rfl (sl 15 rfl sn))) en ?_
  refine tri_false rfl rfl ?_
  refine tri_skip ?_
  refine nx (sl 0 rfl (sl 1 rfl sn)) en ?_
  refine tri_seq ?_
  refine tri_reg mixed hcx ?_ _ _
  refine mv rfl ?_
  refine ca rfl (h := ho) (hn := ?_)
  refine mv rfl ?_
  refine ex rfl rfl ?_
  refine ex rfl rfl ?_
  refine nw 315 zeG ?_
  refine sts rfl rfl rfl tyG rfl ?_
  refine asg rfl ?_
  refine ⟨by kernel_rfl, ?_⟩
  refine nx (sl 0 rfl (sl 1 rfl (sl 5 rfl (sl 6 rfl sn)))) (el 315 rfl en) ?_
  refine tri_seq ?_
  refine tri_seq ?_
  refine tri_reg mixed hcx ?_ _ _
  refine mv rfl ?_
  refine cne rfl rfl (decide_eq_false (by omega)) ?_
  refine mv rfl ?_
  refine mv rfl ?_ (hg := gd1)
  refine ln slZs rfl ?_ (hg := gd1)
  refine mv rfl ?_ (hg := gd1)
  refine ln slZss rfl ?_ (hg := gd1)
  refine cne rfl rfl (decide_eq_true (by omega)) ?_ (hg := gd1)
  refine pk rfl rfl ?_
  refine ⟨by kernel_rfl, ?_⟩
  refine nx (sl 1 rfl (sl 5 rfl (sl 29 rfl sn))) (el 315 rfl en) ?_
  refine tri_true rfl rfl ?_
  refine tri_seq ?_
  refine tri_reg mixed hcx ?_ _ _
  refine asg rfl ?_
  refine ⟨by kernel_rfl, ?_⟩
  refine nx (sl 4 rfl sn) (el 315 rfl en) ?_
  refine tri_ret ?_
  repeat (first | refine pn_thenr ?_ | refine pn_blkr ?_)
  exact ret1 hcx rfl (rv_tmp rfl) (.refl _) en

theorem fwhole_ok {b : List (List Int)} {x : List Int} {k : Nat} {D : List Int} {L : List (List Int)} (hk : k ≤ 1048576) (hrr : ∀ i, i < b.length → (b.getD i []).length ≤ 1048576) (hbl : b.length ≤ 1048576) (hxl : x.length ≤ 1048576) (ho : Fn Try.prog 15 [T.l (cL (cZi k)) b] [] [] [] (T.tup [T.st [T.l (cZ 839679) D, T.l (cL (cZ 839679)) L], T.c (.int .i64 0)])) (hT : TrS D L [] b.length 1048576) (hx : x.length = b.length) {V : Int} (hV : sU D L x b.length b.length = ((V : Int) : Rat)) : Fn Try.prog 4 [T.l (cL (cZi k)) b, T.l (cZi k) x] [] [] [] (T.c (.bool true)) := by
  refine fn_of Try.func4 rfl (by show 2 ≤ 80; decide) fun cx hcx => ?_
  refine tri_sub (sl 0 rfl (sl 1 rfl sn)) en ?_
  have hbl12 := hT.twelve
  refine tri_lz 1 rfl fun hxz => ?_
  have hlL := hT.len
  have hgl : (T.st [T.l (cZ 839679) D, T.l (cL (cZ 839679)) L]).le (T.G D L 1048576) := g_le.trans (g_mono (by decide))
  have hxk : (T.l (cZi k) x).le (T.l (cZi 1048576) x) := li_mono hk
  have hsb := sb_bound (n := L.length) (k := 1048576) (by omega) (Nat.le_refl _)
  have hcq : cq ((V : Int) : Rat) ((V : Int) : Rat) = 0 := cq_self _
  have hF := fn_out (f_Norm12 (x := rv x b.length) hT (rv_zl (fun j => Nat.le_trans (hxz j) hk)) (by rw [rv_len]; omega)) (tup_le (l' := [T.Q ((V : Int) : Rat) 2147483648, T.c (.int .i64 0)]) ⟨q_eq (by rw [nmF_len hx, hV]) (Nat.le_refl _), .refl _, trivial⟩)
  have hN := fn_out (g_Norm (k := 1048576) (SB := 33554432) (x := x) (by decide) hT.good (by omega) (by omega) hsb (by decide) (by decide)) (tup_le (l' := [T.Q ((V : Int) : Rat) 33554432, T.c (.int .i64 0)]) ⟨q_eq (by rw [hlL, hV]) (Nat.le_refl _), .refl _, trivial⟩)
  refine tri_seq ?_
  refine tri_reg mixed hcx ?_ _ _
  refine asg rfl ?_
  refine ⟨by kernel_rfl, ?_⟩
  refine nx (sl 0 rfl (sl 1 rfl sn)) en ?_
  refine tri_seq ?_
  refine tri_seq ?_
  refine tri_reg mixed hcx ?_ _ _
  refine ca rfl (h := l10_alive) (hn := ?_)
  refine nt rfl _ rfl ?_
  refine ⟨by kernel_rfl, ?_⟩
  refine nx (sl 0 rfl (sl 1 rfl (sl 15 rfl sn))) en ?_
  refine tri_false rfl rfl ?_
  refine tri_skip ?_
  refine nx (sl 0 rfl (sl 1 rfl sn)) en ?_
  refine tri_seq ?_
  refine tri_reg mixed hcx ?_ _ _
  refine mv rfl ?_
  refine ca rfl (h := ho) (hn := ?_)
  refine mv rfl ?_
  refine ex rfl rfl ?_
  refine ex rfl rfl ?_
  refine nw 315 zeG ?_
  refine sts rfl rfl rfl tyG rfl ?_
  refine asg rfl ?_
  refine ⟨by kernel_rfl, ?_⟩
  refine nx (sl 0 rfl (sl 1 rfl (sl 5 rfl (sl 6 rfl sn)))) (el 315 rfl en) ?_
  refine tri_seq ?_
  refine tri_seq ?_
  refine tri_reg mixed hcx ?_ _ _
  refine mv rfl ?_
  refine cne rfl rfl (decide_eq_false (by omega)) ?_
  refine mv rfl ?_
  refine mv rfl ?_ (hg := gd1)
  refine ln slZs rfl ?_ (hg := gd1)
  refine mv rfl ?_ (hg := gd1)
  refine ln slZss rfl ?_ (hg := gd1)
  refine cne rfl rfl (decide_eq_false (by omega)) ?_ (hg := gd1)
  refine pk rfl rfl ?_
  refine ⟨by kernel_rfl, ?_⟩
  refine nx (sl 1 rfl (sl 5 rfl (sl 29 rfl sn))) (el 315 rfl en) ?_
  refine tri_false rfl rfl ?_
  refine tri_skip ?_
  refine nx (sl 1 rfl (sl 5 rfl sn)) (el 315 rfl en) ?_
  refine tri_seq ?_
  refine tri_reg mixed hcx ?_ _ _
  refine asg rfl ?_
  refine ⟨by kernel_rfl, ?_⟩
  refine nx (sl 1 rfl (sl 5 rfl (sl 7 rfl sn))) (el 315 rfl en) ?_
  refine tri_seq ?_
  refine tri_seq ?_
  refine tri_nil 7 9 29 (cZi k) rfl (by rw [hcx]; kernel_rfl) ?_
  refine tri_reg mixed hcx ?_ _ _
  refine mv rfl ?_
  refine ln slZs rfl ?_
  refine sb (((x.length : Int) - 1)) rfl rfl rfl (by omega) ?_
  refine asg rfl ?_
  refine ⟨by kernel_rfl, ?_⟩
  refine nx (sl 1 rfl (sl 5 rfl (sl 7 rfl (sl 8 rfl sn)))) (el 315 rfl (el 9 rfl en)) ?_
  refine tri_block ?_
  refine tri_loop (ι := Nat) (fun i => [(1, T.l (cZi k) x), (5, T.p 315 0), (7, T.o 9), (8, T.c (.int .i64 ((x.length : Int) - 1 - (i : Int))))]) (fun i => [(315, some (Ent.box 25 [T.l (cZ 839679) D, T.l (cL (cZ 839679)) L])), (9, some (Ent.row (cZi k) 29 (rv x i)))]) (fun i => x.length - i) (fun i => (i ≤ x.length)) 0 (Nat.zero_le _) (sl 1 rfl (sl 5 rfl (sl 7 rfl (sw 8 rfl (ci (by simp)) sn)))) (el 315 rfl (el 9 rfl en)) ?_
  rintro i hi
  refine tri_sub (sl 1 rfl (sl 5 rfl (sl 7 rfl (sl 8 rfl sn)))) (el 315 rfl (el 9 rfl en)) ?_
  have hrl := @rv_len x i
  refine tri_seq ?_
  refine tri_seq ?_
  refine tri_reg mixed hcx ?_ _ _
  refine mv rfl ?_
  refine cge rfl rfl rfl ?_
  refine ⟨by kernel_rfl, ?_⟩
  refine nx (sl 1 rfl (sl 5 rfl (sl 7 rfl (sl 8 rfl (sl 34 rfl sn))))) (el 315 rfl (el 9 rfl en)) ?_
  refine tri_if rfl (fun hc => ?_) (fun hc => ?_)
  · have hc2 : i < x.length := by omega
    refine tri_skip ?_
    refine nx (sl 1 rfl (sl 5 rfl (sl 7 rfl (sl 8 rfl sn)))) (el 315 rfl (el 9 rfl en)) ?_
    refine tri_seq ?_
    refine tri_block ?_
    refine tri_reg mixed hcx ?_ _ _
    refine mv rfl ?_
    refine mv rfl ?_
    refine mv rfl ?_
    refine ix rfl rfl slZs (i := x.length - 1 - i) ⟨by omega, by omega⟩ ?_
    refine lf rfl tyZ ?_
    refine bs (c := cZi k) (xs := [x.getD (x.length - 1 - i) 0]) slZs rfl ⟨.refl _, trivial⟩ ?_
    refine ap 1016 rfl rfl rfl slZs (by simp only [List.length_cons, List.length_nil]; omega) (by decide) ?_
    refine asg rfl ?_
    refine ⟨by kernel_rfl, ?_⟩
    refine pn_blk ?_
    refine nx (sl 1 rfl (sl 5 rfl (sl 7 rfl (sl 8 rfl sn)))) (el 315 rfl (el 1016 rfl en)) ?_
    refine tri_reg mixed hcx ?_ _ _
    refine mv rfl ?_
    refine sb (((x.length : Int) - 1 - ((i + 1 : Nat) : Int))) rfl rfl rfl (by omega) ?_
    refine asg rfl ?_
    refine ⟨by kernel_rfl, ?_⟩
    refine pn_sub (sl 1 rfl (sl 5 rfl (sl 7 rfl (sl 8 rfl sn)))) (el 315 rfl (el 1016 rfl en)) ?_
    refine pn_ren 7 9 1016 rfl rfl (by rw [hcx]; kernel_rfl) ?_
    exact pn_back (i + 1) (by first | omega | (dsimp only; omega)) (by omega) (sl 1 rfl (sl 5 rfl (sl 7 rfl (sw 8 rfl (ci (by omega)) sn)))) (el 315 rfl (ew 9 rfl (.of (by rw [rv_succ])) en))
  · refine tri_exit ?_
    repeat (first | refine pn_then ?_ | refine pn_oth (by decide) ?_)
    refine pn_ex ?_
    have hin : i = x.length := by omega
    refine nx (sl 1 rfl (sl 5 rfl (sl 7 rfl sn))) (el 315 rfl (el 9 rfl en)) ?_
    refine tri_seq ?_
    refine tri_fz 9 rfl ?_
    refine tri_rd 7 9 rfl rfl ?_
    refine tri_as 7 (Z := T.l (cZi 1048576) (rv x b.length)) rfl ((li_mono hk).trans (.of (by rw [hin, hx]))) ?_
    refine tri_reg mixed hcx ?_ _ _
    refine ld rfl rfl tyG rfl ?_
    refine mv rfl ?_
    refine ca rfl (h := hF) (hn := ?_)
    refine mv rfl ?_
    refine ex rfl rfl ?_
    refine ex rfl rfl ?_
    refine nw 1116 zeQ ?_
    refine st rfl rfl rfl tyQ rfl ?_
    refine asg rfl ?_
    refine ⟨by kernel_rfl, ?_⟩
    refine nx (sl 1 rfl (sl 5 rfl (sl 6 rfl (sl 9 rfl sn)))) (el 315 rfl (el 1116 rfl en)) ?_
    refine tri_seq ?_
    refine tri_reg mixed hcx ?_ _ _
    refine ld rfl rfl tyG rfl ?_
    refine mv rfl ?_
    refine ca rfl (h := hN) (hn := ?_)
    refine mv rfl ?_
    refine ex rfl rfl ?_
    refine ex rfl rfl ?_
    refine nw 1216 zeQ ?_
    refine st rfl rfl rfl tyQ rfl ?_
    refine asg rfl ?_
    refine ⟨by kernel_rfl, ?_⟩
    refine nx (sl 6 rfl (sl 9 rfl (sl 10 rfl (sl 11 rfl sn)))) (el 315 rfl (el 1116 rfl (el 1216 rfl en))) ?_
    refine tri_seq ?_
    refine tri_seq ?_
    refine tri_reg mixed hcx ?_ _ _
    refine mv rfl ?_
    refine cne rfl rfl (decide_eq_false (by omega)) ?_
    refine mv rfl ?_
    refine mv rfl ?_ (hg := gd1)
    refine cne rfl rfl (decide_eq_false (by omega)) ?_ (hg := gd1)
    refine pk rfl rfl ?_
    refine ⟨by kernel_rfl, ?_⟩
    refine nx (sl 9 rfl (sl 10 rfl (sl 61 rfl sn))) (el 315 rfl (el 1116 rfl (el 1216 rfl en))) ?_
    refine tri_false rfl rfl ?_
    refine tri_skip ?_
    refine nx (sl 9 rfl (sl 10 rfl sn)) (el 315 rfl (el 1116 rfl (el 1216 rfl en))) ?_
    refine tri_seq ?_
    refine tri_reg mixed hcx ?_ _ _
    refine ld rfl rfl tyQ rfl ?_
    refine ld rfl rfl tyQ rfl ?_
    refine cb rfl (h := rv_Cmp (by omega) (by omega)) (hn := ?_)
    refine mv rfl ?_
    refine ex rfl rfl ?_
    refine ex rfl rfl ?_
    refine asg rfl ?_
    refine asg rfl ?_
    refine ⟨by kernel_rfl, ?_⟩
    refine nx (sl 9 rfl (sl 12 rfl (sl 13 rfl sn))) (el 315 rfl (el 1116 rfl (el 1216 rfl en))) ?_
    refine tri_seq ?_
    refine tri_sub (sl 9 rfl (sl 12 rfl (sl 13 rfl sn))) (el 315 rfl (el 1216 rfl (ew 1116 rfl int_box en))) ?_
    refine tri_reg mixed hcx ?_ _ _
    refine mv rfl ?_
    refine ceq rfl rfl (decide_eq_true (by omega)) ?_
    refine mv rfl ?_
    refine mv rfl ?_ (hg := gd1)
    refine ceq rfl rfl (decide_eq_true (by omega)) ?_ (hg := gd1)
    refine pk rfl rfl ?_
    refine mv rfl ?_
    refine fa rfl fDen 2 ?_ (hg := gd1)
    refine ld rfl rfl tyZ rfl ?_ (hg := gd1)
    refine ca rfl (h := zi_Of (by omega) (by omega)) (hn := ?_) (hg := gd1)
    refine ca rfl (h := l10_eq (by omega)) (hn := ?_) (hg := gd1)
    refine pk rfl rfl ?_
    refine asg rfl ?_
    refine ⟨by kernel_rfl, ?_⟩
    refine nx (sl 4 rfl sn) (el 315 rfl (el 1116 rfl (el 1216 rfl en))) ?_
    refine tri_ret ?_
    repeat (first | refine pn_thenr ?_ | refine pn_blkr ?_)
    exact ret1 hcx rfl (rv_tmp rfl) (.refl _) en

/-- The law, of all rows and numbers. -/
theorem fwhole_all {b : List (List Int)} {x : List Int} {k : Nat} (hk : k ≤ 1048576) (hrr : ∀ i, i < b.length → (b.getD i []).length ≤ 1048576) (hbl : b.length ≤ 1048576) (hxl : x.length ≤ 1048576) : Fn Try.prog 4 [T.l (cL (cZi k)) b, T.l (cZi k) x] [] [] [] (T.c (.bool true)) := by
  obtain ⟨r, hR⟩ := ShR.ex b true
  by_cases hr : r = 0
  · subst hr
    obtain ⟨h0, hb, hm, hm12, hbits⟩ := shr_basis hR
    have hS := val_S hbits (fun i hi => by rw [hm i hi]; exact hm12)
    cases h : bld b b.length with
    | none => exact fwhole_err hk hrr hbl hxl (by decide) (g_Of_no (K := 839679) h0 hb hm hk hm12 hR h hS (by decide) (by decide) (by decide))
    | some p =>
      obtain ⟨D, L⟩ := p
      have ho := g_Of_ok (K := 839679) h0 hb hm hk hm12 hR h hS (by decide) (by decide) (by decide)
      by_cases hx : x.length = b.length
      · exact fwhole_ok hk hrr hbl hxl ho (data_T hR h) hx (norm_len (bld_DI h) hm)
      · exact fwhole_len hk hrr hbl hxl ho hx
  · exact fwhole_err hk hrr hbl hxl hr (g_Of_err hk hrr hbl hR hr)
end Go.Proofs.Ytffnfbhhjjbjbaa.V
