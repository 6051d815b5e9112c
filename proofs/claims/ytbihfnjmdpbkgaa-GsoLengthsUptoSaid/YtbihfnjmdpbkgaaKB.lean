/- What a basis is; the law is awake. -/
import Derived.Test.YtbihfnjmdpbkgaaKA
set_option linter.unusedVariables false
set_option linter.unusedSimpArgs false
set_option maxRecDepth 100000
namespace Go.Proofs.Ytbihfnjmdpbkgaa.V
open Go.RowKit Mt Nml
/-- The most bits. -/
def mxB (l : List Int) (a : Nat) : Nat → Nat
  | 0 => a
  | j + 1 => max (mxB l a j) (nbits (l.getD j 0).natAbs)
def matB (b : List (List Int)) : Nat → Nat
  | 0 => 0
  | i + 1 => mxB (b.getD i []) (matB b i) (b.getD i []).length

theorem mat_Bits {b : List (List Int)} {k : Nat} (hk : k ≤ 1048576) (hb : b.length ≤ 1048576) (hr : ∀ i, i < b.length → (b.getD i []).length ≤ 1048576) : Fn Try.prog 165 [T.l (cL (cZi k)) b] [] [] [] (T.c (.int .i64 ((matB b b.length : Nat) : Int))) := by
  refine fn_of Try.func165 rfl (by show 1 ≤ 27; decide) fun cx hcx => ?_
  refine tri_sub (sl 0 rfl sn) en ?_
  refine tri_seq ?_
  refine tri_reg mixed hcx ?_ _ _
  refine asg rfl ?_
  refine ⟨by kernel_rfl, ?_⟩
  refine nx (sl 0 rfl sn) en ?_
  refine tri_seq ?_
  refine tri_reg mixed hcx ?_ _ _
  refine asg rfl ?_
  refine ⟨by kernel_rfl, ?_⟩
  refine nx (sl 0 rfl (sl 3 rfl sn)) en ?_
  refine tri_seq ?_
  refine tri_seq ?_
  refine tri_reg mixed hcx ?_ _ _
  refine mv rfl ?_
  refine ln slZss rfl ?_
  refine mv rfl ?_
  refine ⟨by kernel_rfl, ?_⟩
  refine nx (sl 3 rfl (sl 8 rfl (sl 9 rfl (sl 10 rfl sn)))) en ?_
  refine tri_block ?_
  refine tri_loop (ι := Nat) (fun i => [(3, T.c (.int .i64 ((matB b i : Nat) : Int))), (8, T.l (cL (cZi k)) b), (9, T.c (.int .i64 (b.length : Int))), (10, T.c (.int .i64 (i : Int)))]) (fun i => []) (fun i => b.length - i) (fun i => (i ≤ b.length)) 0 (Nat.zero_le _) (sl 3 rfl (sl 8 rfl (sl 9 rfl (sl 10 rfl sn)))) en ?_
  rintro i hi
  refine tri_sub (sl 3 rfl (sl 8 rfl (sl 9 rfl (sl 10 rfl sn)))) en ?_
  refine tri_seq ?_
  refine tri_reg mixed hcx ?_ _ _
  refine clt rfl rfl rfl ?_
  refine ⟨by kernel_rfl, ?_⟩
  refine nx (sl 3 rfl (sl 8 rfl (sl 9 rfl (sl 10 rfl (sl 11 rfl sn))))) en ?_
  refine tri_seq ?_
  refine tri_if rfl (fun hc => ?_) (fun hc => ?_)
  · have hri : (b.getD i (cL (cZi k)).dflt).length ≤ 1048576 := hr i (by omega)
    refine tri_skip ?_
    refine nx (sl 3 rfl (sl 8 rfl (sl 9 rfl (sl 10 rfl sn)))) en ?_
    refine tri_seq ?_
    refine tri_block ?_
    refine tri_seq ?_
    refine tri_reg mixed hcx ?_ _ _
    refine ix rfl rfl slZss ⟨rfl, by omega⟩ ?_
    refine lf rfl tyZs ?_
    refine asg rfl ?_
    refine ⟨by kernel_rfl, ?_⟩
    refine nx (sl 3 rfl (sl 5 rfl (sl 8 rfl (sl 9 rfl (sl 10 rfl sn))))) en ?_
    refine tri_seq ?_
    refine tri_reg mixed hcx ?_ _ _
    refine mv rfl ?_
    refine ln slZs rfl ?_
    refine mv rfl ?_
    refine ⟨by kernel_rfl, ?_⟩
    refine nx (sl 3 rfl (sl 8 rfl (sl 9 rfl (sl 10 rfl (sl 14 rfl (sl 15 rfl (sl 16 rfl sn))))))) en ?_
    refine tri_block ?_
    refine tri_loop (ι := Nat) (fun j => [(3, T.c (.int .i64 ((mxB (b.getD i []) (matB b i) j : Nat) : Int))), (8, T.l (cL (cZi k)) b), (9, T.c (.int .i64 (b.length : Int))), (10, T.c (.int .i64 (i : Int))), (14, T.l (cZi k) (b.getD i [])), (15, T.c (.int .i64 ((b.getD i []).length : Int))), (16, T.c (.int .i64 (j : Int)))]) (fun j => []) (fun j => (b.getD i []).length - j) (fun j => (j ≤ (b.getD i []).length)) 0 (Nat.zero_le _) (sl 3 rfl (sl 8 rfl (sl 9 rfl (sl 10 rfl (sl 14 rfl (sl 15 rfl (sl 16 rfl sn))))))) en ?_
    rintro j hj
    refine tri_sub (sl 3 rfl (sl 8 rfl (sl 9 rfl (sl 10 rfl (sl 14 rfl (sl 15 rfl (sl 16 rfl sn))))))) en ?_
    refine tri_seq ?_
    refine tri_reg mixed hcx ?_ _ _
    refine clt rfl rfl rfl ?_
    refine ⟨by kernel_rfl, ?_⟩
    refine nx (sl 3 rfl (sl 8 rfl (sl 9 rfl (sl 10 rfl (sl 14 rfl (sl 15 rfl (sl 16 rfl (sl 17 rfl sn)))))))) en ?_
    refine tri_seq ?_
    refine tri_if rfl (fun hd => ?_) (fun hd => ?_)
    · have hri2 : (b.getD i []).length ≤ 1048576 := hri
      refine tri_skip ?_
      refine nx (sl 3 rfl (sl 8 rfl (sl 9 rfl (sl 10 rfl (sl 14 rfl (sl 15 rfl (sl 16 rfl sn))))))) en ?_
      refine tri_seq ?_
      refine tri_block ?_
      refine tri_seq ?_
      refine tri_reg mixed hcx ?_ _ _
      refine ix rfl rfl slZs ⟨rfl, by omega⟩ ?_
      refine lf rfl tyZ ?_
      refine nw 712 zeZ ?_
      refine st rfl rfl rfl tyZ rfl ?_
      refine ⟨by kernel_rfl, ?_⟩
      refine nx (sl 3 rfl (sl 7 rfl (sl 8 rfl (sl 9 rfl (sl 10 rfl (sl 14 rfl (sl 15 rfl (sl 16 rfl sn)))))))) (el 712 rfl en) ?_
      refine tri_reg mixed hcx ?_ _ _
      refine mv rfl ?_
      refine ld rfl rfl tyZ rfl ?_
      refine ca rfl (h := zi_Bits (by omega)) (hn := ?_)
      refine mxb ((max (mxB (b.getD i []) (matB b i) j) (nbits ((b.getD i []).getD j 0).natAbs) : Nat) : Int) rfl rfl (by show max ((mxB (b.getD i []) (matB b i) j : Nat) : Int) ((nbits ((b.getD i []).getD j 0).natAbs : Nat) : Int) = _; omega) ?_
      refine asg rfl ?_
      refine ⟨by kernel_rfl, ?_⟩
      refine pn_blk ?_
      refine nx (sl 3 rfl (sl 8 rfl (sl 9 rfl (sl 10 rfl (sl 14 rfl (sl 15 rfl (sl 16 rfl sn))))))) (el 712 rfl en) ?_
      refine tri_reg mixed hcx ?_ _ _
      refine ad (((j + 1 : Nat) : Int)) rfl rfl rfl (by omega) ?_
      refine mv rfl ?_
      refine ⟨by kernel_rfl, ?_⟩
      exact pn_back (j + 1) (by first | omega | (dsimp only; omega)) (by omega) (sl 3 rfl (sl 8 rfl (sl 9 rfl (sl 10 rfl (sl 14 rfl (sl 15 rfl (sl 16 rfl sn))))))) en
    · refine tri_exit ?_
      repeat (first | refine pn_then ?_ | refine pn_oth (by decide) ?_)
      refine pn_ex ?_
      have hj2 : j = (b.getD i []).length := by omega
      refine pn_blk ?_
      refine nx (sl 3 rfl (sl 8 rfl (sl 9 rfl (sl 10 rfl sn)))) en ?_
      refine tri_reg mixed hcx ?_ _ _
      refine ad (((i + 1 : Nat) : Int)) rfl rfl rfl (by omega) ?_
      refine mv rfl ?_
      refine ⟨by kernel_rfl, ?_⟩
      exact pn_back (i + 1) (by first | omega | (dsimp only; omega)) (by omega) (sw 3 rfl (ci (by rw [hj2]; rfl)) (sl 8 rfl (sl 9 rfl (sl 10 rfl sn)))) en
  · refine tri_exit ?_
    repeat (first | refine pn_then ?_ | refine pn_oth (by decide) ?_)
    refine pn_ex ?_
    have hin : i = b.length := by omega
    subst hin
    refine nx (sl 3 rfl sn) en ?_
    refine tri_seq ?_
    refine tri_reg mixed hcx ?_ _ _
    refine mv rfl ?_
    refine asg rfl ?_
    refine ⟨by kernel_rfl, ?_⟩
    refine nx (sl 2 rfl sn) en ?_
    refine tri_ret ?_
    repeat (first | refine pn_thenr ?_ | refine pn_blkr ?_)
    exact ret1 hcx rfl (rv_tmp rfl) (.refl _) en

theorem mat_Shape {b : List (List Int)} {k m : Nat} (h0 : 0 < b.length) (hb : b.length ≤ 12) (hm : ∀ i, i < b.length → (b.getD i []).length = m) : Fn Try.prog 166 [T.l (cL (cZi k)) b] [] [] [] (T.tup [T.c (.int .i64 (b.length : Int)), T.c (.int .i64 (m : Int)), T.c (.int .i64 0)]) := by
  refine fn_of Try.func166 rfl (by show 1 ≤ 30; decide) fun cx hcx => ?_
  refine tri_sub (sl 0 rfl sn) en ?_
  have hm0 : (b.getD 0 (cL (cZi k)).dflt).length = m := hm 0 h0
  refine tri_seq ?_
  refine tri_reg mixed hcx ?_ _ _
  refine asg rfl ?_
  refine asg rfl ?_
  refine asg rfl ?_
  refine ⟨by kernel_rfl, ?_⟩
  refine nx (sl 0 rfl sn) en ?_
  refine tri_seq ?_
  refine tri_seq ?_
  refine tri_reg mixed hcx ?_ _ _
  refine mv rfl ?_
  refine ln slZss rfl ?_
  refine ceq rfl rfl (decide_eq_false (by omega)) ?_
  refine ⟨by kernel_rfl, ?_⟩
  refine nx (sl 0 rfl (sl 9 rfl sn)) en ?_
  refine tri_false rfl rfl ?_
  refine tri_skip ?_
  refine nx (sl 0 rfl sn) en ?_
  refine tri_seq ?_
  refine tri_seq ?_
  refine tri_reg mixed hcx ?_ _ _
  refine mv rfl ?_
  refine ln slZss rfl ?_
  refine mv rfl ?_
  refine ⟨by kernel_rfl, ?_⟩
  refine nx (sl 0 rfl (sl 10 rfl (sl 11 rfl (sl 12 rfl sn)))) en ?_
  refine tri_block ?_
  refine tri_loop (ι := Nat) (fun i => [(0, T.l (cL (cZi k)) b), (10, T.l (cL (cZi k)) b), (11, T.c (.int .i64 (b.length : Int))), (12, T.c (.int .i64 (i : Int)))]) (fun i => []) (fun i => b.length - i) (fun i => (i ≤ b.length)) 0 (Nat.zero_le _) (sl 0 rfl (sl 10 rfl (sl 11 rfl (sl 12 rfl sn)))) en ?_
  rintro i hi
  refine tri_sub (sl 0 rfl (sl 10 rfl (sl 11 rfl (sl 12 rfl sn)))) en ?_
  refine tri_seq ?_
  refine tri_reg mixed hcx ?_ _ _
  refine clt rfl rfl rfl ?_
  refine ⟨by kernel_rfl, ?_⟩
  refine nx (sl 0 rfl (sl 10 rfl (sl 11 rfl (sl 12 rfl (sl 13 rfl sn))))) en ?_
  refine tri_seq ?_
  refine tri_if rfl (fun hc => ?_) (fun hc => ?_)
  · have hmi : (b.getD i (cL (cZi k)).dflt).length = m := hm i (by omega)
    refine tri_skip ?_
    refine nx (sl 0 rfl (sl 10 rfl (sl 11 rfl (sl 12 rfl sn)))) en ?_
    refine tri_seq ?_
    refine tri_block ?_
    refine tri_seq ?_
    refine tri_reg mixed hcx ?_ _ _
    refine ix rfl rfl slZss ⟨rfl, by omega⟩ ?_
    refine lf rfl tyZs ?_
    refine asg rfl ?_
    refine ⟨by kernel_rfl, ?_⟩
    refine nx (sl 0 rfl (sl 6 rfl (sl 10 rfl (sl 11 rfl (sl 12 rfl sn))))) en ?_
    refine tri_seq ?_
    refine tri_reg mixed hcx ?_ _ _
    refine mv rfl ?_
    refine ln slZs rfl ?_
    refine mv rfl ?_
    refine ix rfl rfl slZss ⟨(rfl : _ = ((0 : Nat) : Int)), by omega⟩ ?_
    refine lf rfl tyZs ?_
    refine ln slZs rfl ?_
    refine cne rfl rfl (decide_eq_false (by omega)) ?_
    refine ⟨by kernel_rfl, ?_⟩
    refine nx (sl 0 rfl (sl 10 rfl (sl 11 rfl (sl 12 rfl (sl 22 rfl sn))))) en ?_
    refine tri_false rfl rfl ?_
    refine tri_skip ?_
    refine pn_blk ?_
    refine nx (sl 0 rfl (sl 10 rfl (sl 11 rfl (sl 12 rfl sn)))) en ?_
    refine tri_reg mixed hcx ?_ _ _
    refine ad (((i + 1 : Nat) : Int)) rfl rfl rfl (by omega) ?_
    refine mv rfl ?_
    refine ⟨by kernel_rfl, ?_⟩
    exact pn_back (i + 1) (by first | omega | (dsimp only; omega)) (by omega) (sl 0 rfl (sl 10 rfl (sl 11 rfl (sl 12 rfl sn)))) en
  · refine tri_exit ?_
    repeat (first | refine pn_then ?_ | refine pn_oth (by decide) ?_)
    refine pn_ex ?_
    refine nx (sl 0 rfl sn) en ?_
    refine tri_seq ?_
    refine tri_reg mixed hcx ?_ _ _
    refine mv rfl ?_
    refine ln slZss rfl ?_
    refine mv rfl ?_
    refine ix rfl rfl slZss ⟨(rfl : _ = ((0 : Nat) : Int)), by omega⟩ ?_
    refine lf rfl tyZs ?_
    refine ln slZs rfl ?_
    refine asg rfl ?_
    refine asg rfl ?_
    refine asg rfl ?_
    refine ⟨by kernel_rfl, ?_⟩
    refine nx (sl 2 rfl (sl 3 rfl (sl 4 rfl sn))) en ?_
    refine tri_ret ?_
    repeat (first | refine pn_thenr ?_ | refine pn_blkr ?_)
    exact ret3 hcx rfl (rv_tmp rfl) (rv_tmp rfl) (rv_tmp rfl) (.of (by rw [hm0])) en

theorem g_shaped {b : List (List Int)} {k m : Nat} (h0 : 0 < b.length) (hb : b.length ≤ 12) (hm : ∀ i, i < b.length → (b.getD i []).length = m) (hk : k ≤ 1048576) (hm12 : m ≤ 12) (hbits : matB b b.length ≤ 256) : Fn Try.prog 131 [T.l (cL (cZi k)) b, T.c (.bool true)] [] [] [] (T.c (.int .i64 0)) := by
  refine fn_of Try.func131 rfl (by show 2 ≤ 46; decide) fun cx hcx => ?_
  refine tri_sub (sl 0 rfl (sl 1 rfl sn)) en ?_
  have hrr : ∀ i, i < b.length → (b.getD i []).length ≤ 1048576 := fun i hi => by rw [hm i hi]; omega
  refine tri_seq ?_
  refine tri_reg mixed hcx ?_ _ _
  refine asg rfl ?_
  refine ⟨by kernel_rfl, ?_⟩
  refine nx (sl 0 rfl (sl 1 rfl sn)) en ?_
  refine tri_seq ?_
  refine tri_reg mixed hcx ?_ _ _
  refine mv rfl ?_
  refine ln slZss rfl ?_
  refine cgt rfl rfl (decide_eq_false (by omega)) ?_
  refine mv rfl ?_
  refine mv rfl ?_ (hg := gd1)
  refine mv rfl ?_ (hg := gd1)
  refine mv rfl ?_ (hg := gd1)
  refine ca rfl (h := mat_Bits (by omega) (by omega) hrr) (hn := ?_) (hg := gd1)
  refine cgt rfl rfl (decide_eq_false (by omega)) ?_ (hg := gd1)
  refine pk rfl rfl ?_ (hg := gd1)
  refine pk rfl rfl ?_
  refine asg rfl ?_
  refine ⟨by kernel_rfl, ?_⟩
  refine nx (sl 0 rfl (sl 5 rfl sn)) en ?_
  refine tri_seq ?_
  refine tri_seq ?_
  refine tri_reg mixed hcx ?_ _ _
  refine mv rfl ?_
  refine ln slZss rfl ?_
  refine mv rfl ?_
  refine ⟨by kernel_rfl, ?_⟩
  refine nx (sl 0 rfl (sl 5 rfl (sl 22 rfl (sl 23 rfl (sl 24 rfl sn))))) en ?_
  refine tri_block ?_
  refine tri_loop (ι := Nat) (fun i => [(0, T.l (cL (cZi k)) b), (5, T.c (.bool false)), (22, T.l (cL (cZi k)) b), (23, T.c (.int .i64 (b.length : Int))), (24, T.c (.int .i64 (i : Int)))]) (fun i => []) (fun i => b.length - i) (fun i => (i ≤ b.length)) 0 (Nat.zero_le _) (sl 0 rfl (sl 5 rfl (sl 22 rfl (sl 23 rfl (sl 24 rfl sn))))) en ?_
  rintro i hi
  refine tri_sub (sl 0 rfl (sl 5 rfl (sl 22 rfl (sl 23 rfl (sl 24 rfl sn))))) en ?_
  refine tri_seq ?_
  refine tri_reg mixed hcx ?_ _ _
  refine clt rfl rfl rfl ?_
  refine ⟨by kernel_rfl, ?_⟩
  refine nx (sl 0 rfl (sl 5 rfl (sl 22 rfl (sl 23 rfl (sl 24 rfl (sl 25 rfl sn)))))) en ?_
  refine tri_seq ?_
  refine tri_if rfl (fun hc => ?_) (fun hc => ?_)
  · have hmi : (b.getD i (cL (cZi k)).dflt).length = m := hm i (by omega)
    refine tri_skip ?_
    refine nx (sl 0 rfl (sl 5 rfl (sl 22 rfl (sl 23 rfl (sl 24 rfl sn))))) en ?_
    refine tri_seq ?_
    refine tri_block ?_
    refine tri_seq ?_
    refine tri_reg mixed hcx ?_ _ _
    refine ix rfl rfl slZss ⟨rfl, by omega⟩ ?_
    refine lf rfl tyZs ?_
    refine asg rfl ?_
    refine ⟨by kernel_rfl, ?_⟩
    refine nx (sl 0 rfl (sl 5 rfl (sl 7 rfl (sl 22 rfl (sl 23 rfl (sl 24 rfl sn)))))) en ?_
    refine tri_reg mixed hcx ?_ _ _
    refine mv rfl ?_
    refine mv rfl ?_
    refine mv rfl ?_ (hg := gd1)
    refine ln slZs rfl ?_ (hg := gd1)
    refine cgt rfl rfl (decide_eq_false (by omega)) ?_ (hg := gd1)
    refine pk rfl rfl ?_
    refine asg rfl ?_
    refine ⟨by kernel_rfl, ?_⟩
    refine pn_blk ?_
    refine nx (sl 0 rfl (sl 5 rfl (sl 22 rfl (sl 23 rfl (sl 24 rfl sn))))) en ?_
    refine tri_reg mixed hcx ?_ _ _
    refine ad (((i + 1 : Nat) : Int)) rfl rfl rfl (by omega) ?_
    refine mv rfl ?_
    refine ⟨by kernel_rfl, ?_⟩
    exact pn_back (i + 1) (by first | omega | (dsimp only; omega)) (by omega) (sl 0 rfl (sl 5 rfl (sl 22 rfl (sl 23 rfl (sl 24 rfl sn))))) en
  · refine tri_exit ?_
    repeat (first | refine pn_then ?_ | refine pn_oth (by decide) ?_)
    refine pn_ex ?_
    refine nx (sl 0 rfl (sl 5 rfl sn)) en ?_
    refine tri_seq ?_
    refine tri_seq ?_
    refine tri_reg mixed hcx ?_ _ _
    refine mv rfl ?_
    refine ⟨by kernel_rfl, ?_⟩
    refine nx (sl 0 rfl (sl 35 rfl sn)) en ?_
    refine tri_false rfl rfl ?_
    refine tri_skip ?_
    refine nx (sl 0 rfl sn) en ?_
    refine tri_seq ?_
    refine tri_seq ?_
    refine tri_reg mixed hcx ?_ _ _
    refine mv rfl ?_
    refine ln slZss rfl ?_
    refine ceq rfl rfl (decide_eq_false (by omega)) ?_
    refine ⟨by kernel_rfl, ?_⟩
    refine nx (sl 0 rfl (sl 38 rfl sn)) en ?_
    refine tri_false rfl rfl ?_
    refine tri_skip ?_
    refine nx (sl 0 rfl sn) en ?_
    refine tri_seq ?_
    refine tri_reg mixed hcx ?_ _ _
    refine mv rfl ?_
    refine ca rfl (h := mat_Shape h0 hb hm) (hn := ?_)
    refine mv rfl ?_
    refine ex rfl rfl ?_
    refine ex rfl rfl ?_
    refine ex rfl rfl ?_
    refine asg rfl ?_
    refine asg rfl ?_
    refine asg rfl ?_
    refine ⟨by kernel_rfl, ?_⟩
    refine nx (sl 10 rfl sn) en ?_
    refine tri_seq ?_
    refine tri_reg mixed hcx ?_ _ _
    refine mv rfl ?_
    refine asg rfl ?_
    refine ⟨by kernel_rfl, ?_⟩
    refine nx (sl 4 rfl sn) en ?_
    refine tri_ret ?_
    repeat (first | refine pn_thenr ?_ | refine pn_blkr ?_)
    exact ret1 hcx rfl (rv_tmp rfl) (.refl _) en

theorem g_of {b : List (List Int)} {D0 : List Int} {L0 : List (List Int)} {k m S K : Nat} (h0 : 0 < b.length) (hb : b.length ≤ 12) (hm : ∀ i, i < b.length → (b.getD i []).length = m) (hk : k ≤ 1048576) (hm12 : m ≤ 12) (hbits : matB b b.length ≤ 256) (h : bld b b.length = some (D0, L0)) (hS : ∀ i j, i < b.length → j ≤ i → zl (dotU (b.getD i []) (b.getD j []) (b.getD i []).length) ≤ S) (hK1 : bd S 12 ≤ K) (hK2 : K ≤ 137438953472) (hK3 : 2 ≤ K) : Fn Try.prog 77 [T.l (cL (cZi k)) b, T.c (.bool true)] [] [] [] (T.tup [T.st [T.l (cZ K) D0, T.l (cL (cZ K)) L0], T.c (.int .i64 0)]) := by
  refine fn_of Try.func77 rfl (by show 2 ≤ 25; decide) fun cx hcx => ?_
  refine tri_sub (sl 0 rfl (sl 1 rfl sn)) en ?_
  refine tri_seq ?_
  refine tri_reg mixed hcx ?_ _ _
  refine nw 10 zeG ?_
  refine asg rfl ?_
  refine ⟨by kernel_rfl, ?_⟩
  refine nx (sl 0 rfl (sl 1 rfl (sl 4 rfl sn))) (el 10 rfl en) ?_
  refine tri_seq ?_
  refine tri_seq ?_
  refine tri_reg mixed hcx ?_ _ _
  refine mv rfl ?_
  refine mv rfl ?_
  refine ca rfl (h := g_shaped h0 hb hm (by omega) (by omega) (by omega)) (hn := ?_)
  refine asg rfl ?_
  refine ⟨by kernel_rfl, ?_⟩
  refine nx (sl 0 rfl (sl 4 rfl (sl 6 rfl sn))) (el 10 rfl en) ?_
  refine tri_seq ?_
  refine tri_reg mixed hcx ?_ _ _
  refine mv rfl ?_
  refine cne rfl rfl (decide_eq_false (by omega)) ?_
  refine ⟨by kernel_rfl, ?_⟩
  refine nx (sl 0 rfl (sl 4 rfl (sl 6 rfl (sl 13 rfl sn)))) (el 10 rfl en) ?_
  refine tri_false rfl rfl ?_
  refine tri_skip ?_
  refine nx (sl 0 rfl (sl 4 rfl sn)) (el 10 rfl en) ?_
  refine tri_seq ?_
  refine tri_reg mixed hcx ?_ _ _
  refine mv rfl ?_
  refine ca rfl (h := g_built h hb hm (by omega) hk hS hK1 hK2 hK3) (hn := ?_)
  refine mv rfl ?_
  refine ex rfl rfl ?_
  refine ex rfl rfl ?_
  refine nw 415 zeG ?_
  refine st rfl rfl rfl tyG rfl ?_
  refine asg rfl ?_
  refine ⟨by kernel_rfl, ?_⟩
  refine nx (sl 4 rfl (sl 7 rfl (sl 8 rfl sn))) (el 10 rfl (el 415 rfl en)) ?_
  refine tri_seq ?_
  refine tri_seq ?_
  refine tri_reg mixed hcx ?_ _ _
  refine mv rfl ?_
  refine nt rfl _ rfl ?_
  refine ⟨by kernel_rfl, ?_⟩
  refine nx (sl 4 rfl (sl 7 rfl (sl 22 rfl sn))) (el 10 rfl (el 415 rfl en)) ?_
  refine tri_false rfl rfl ?_
  refine tri_skip ?_
  refine nx (sl 4 rfl (sl 7 rfl sn)) (el 10 rfl (el 415 rfl en)) ?_
  refine tri_seq ?_
  refine tri_reg mixed hcx ?_ _ _
  refine ld rfl rfl tyG rfl ?_
  refine st rfl rfl rfl tyG rfl ?_
  refine asg rfl ?_
  refine ⟨by kernel_rfl, ?_⟩
  refine nx (sl 4 rfl (sl 5 rfl sn)) (el 10 rfl (el 415 rfl en)) ?_
  refine tri_ret ?_
  repeat (first | refine pn_thenr ?_ | refine pn_blkr ?_)
  exact ret2 hcx rfl (rv_cell (c' := cx) (n := 0) rfl rfl tyG rfl) (rv_tmp rfl) (.refl _) en

theorem g_Of {b : List (List Int)} {D0 : List Int} {L0 : List (List Int)} {k m S K : Nat} (h0 : 0 < b.length) (hb : b.length ≤ 12) (hm : ∀ i, i < b.length → (b.getD i []).length = m) (hk : k ≤ 1048576) (hm12 : m ≤ 12) (hbits : matB b b.length ≤ 256) (h : bld b b.length = some (D0, L0)) (hS : ∀ i j, i < b.length → j ≤ i → zl (dotU (b.getD i []) (b.getD j []) (b.getD i []).length) ≤ S) (hK1 : bd S 12 ≤ K) (hK2 : K ≤ 137438953472) (hK3 : 2 ≤ K) : Fn Try.prog 15 [T.l (cL (cZi k)) b] [] [] [] (T.tup [T.st [T.l (cZ K) D0, T.l (cL (cZ K)) L0], T.c (.int .i64 0)]) := by
  refine fn_of Try.func15 rfl (by show 1 ≤ 8; decide) fun cx hcx => ?_
  refine tri_sub (sl 0 rfl sn) en ?_
  refine tri_seq ?_
  refine tri_reg mixed hcx ?_ _ _
  refine nw 10 zeG ?_
  refine asg rfl ?_
  refine ⟨by kernel_rfl, ?_⟩
  refine nx (sl 0 rfl (sl 2 rfl sn)) (el 10 rfl en) ?_
  refine tri_seq ?_
  refine tri_reg mixed hcx ?_ _ _
  refine mv rfl ?_
  refine ca rfl (h := g_of h0 hb hm hk hm12 hbits h hS hK1 hK2 hK3) (hn := ?_)
  refine ex rfl rfl ?_
  refine ex rfl rfl ?_
  refine st rfl rfl rfl tyG rfl ?_
  refine asg rfl ?_
  refine ⟨by kernel_rfl, ?_⟩
  refine nx (sl 2 rfl (sl 3 rfl sn)) (el 10 rfl en) ?_
  refine tri_ret ?_
  repeat (first | refine pn_thenr ?_ | refine pn_blkr ?_)
  exact ret2 hcx rfl (rv_cell (c' := cx) (n := 0) rfl rfl tyG rfl) (rv_tmp rfl) (.refl _) en

theorem law_square  : Fn Try.prog 82 [] [] [] [] (T.l (cL (cZ 2)) [[1, 1], [0, 2]]) := by
  refine fn_of Try.func82 rfl (by show 0 ≤ 8; decide) fun cx hcx => ?_
  refine tri_sub sn en ?_
  refine tri_seq ?_
  refine tri_reg mixed hcx ?_ _ _
  refine asg rfl ?_
  refine ⟨by kernel_rfl, ?_⟩
  refine nx sn en ?_
  refine tri_seq ?_
  refine tri_reg mixed hcx ?_ _ _
  refine ca rfl (h := law_n (by omega) (by omega)) (hn := ?_)
  refine ca rfl (h := law_n (by omega) (by omega)) (hn := ?_)
  refine bs (c := cZ 2) (xs := [1, 1]) slZs rfl ⟨.refl _, .refl _, trivial⟩ ?_
  refine ca rfl (h := law_n (by omega) (by omega)) (hn := ?_)
  refine ca rfl (h := law_n (by omega) (by omega)) (hn := ?_)
  refine bs (c := cZ 2) (xs := [0, 2]) slZs rfl ⟨.refl _, .refl _, trivial⟩ ?_
  refine bs (c := cL (cZ 2)) (xs := [[1, 1], [0, 2]]) slZss rfl ⟨.refl _, .refl _, trivial⟩ ?_
  refine asg rfl ?_
  refine ⟨by kernel_rfl, ?_⟩
  refine nx (sl 0 rfl sn) en ?_
  refine tri_ret ?_
  repeat (first | refine pn_thenr ?_ | refine pn_blkr ?_)
  exact ret1 hcx rfl (rv_tmp rfl) (.refl _) en

theorem zl_one' {z : Int} (h : z.natAbs < 4294967296) : zl z ≤ 1 := by unfold zl; exact lim_le (by unfold B; omega)
theorem zl_dotU {xs ys : List Int} {k l : Nat} (hx : ∀ i, zl (xs.getD i 0) ≤ k) (hy : ∀ i, zl (ys.getD i 0) ≤ l) : ∀ n, zl (dotU xs ys n) ≤ n * (k + l + 1)
  | 0 => by show zl 0 ≤ _; rw [show zl 0 = 0 from by unfold zl; exact lim_zero]; omega
  | n + 1 => by
    rw [Nat.succ_mul]
    exact Nat.le_trans (zl_add_max (k := n * (k + l + 1) + (k + l)) (Nat.le_trans (zl_dotU hx hy n) (by omega)) (Nat.le_trans (zl_mul (hx n) (hy n)) (by omega))) (by omega)
theorem awake_S : ∀ i j, i < ([[1, 1], [0, 2]] : List (List Int)).length → j ≤ i → zl (dotU (([[1, 1], [0, 2]] : List (List Int)).getD i []) (([[1, 1], [0, 2]] : List (List Int)).getD j []) (([[1, 1], [0, 2]] : List (List Int)).getD i []).length) ≤ 10 := fun i j hi hj => by
  have h : ∀ i, i < 2 → ∀ j, j ≤ i → (dotU (([[1, 1], [0, 2]] : List (List Int)).getD i []) (([[1, 1], [0, 2]] : List (List Int)).getD j []) (([[1, 1], [0, 2]] : List (List Int)).getD i []).length).natAbs < 4294967296 := by decide
  exact Nat.le_trans (zl_one' (h i hi j hj)) (by decide)

theorem law_awake  : Fn Try.prog 24 [] [] [] [] (T.c (.bool true)) := by
  refine fn_of Try.func24 rfl (by show 0 ≤ 34; decide) fun cx hcx => ?_
  refine tri_sub sn en ?_
  refine tri_seq ?_
  refine tri_reg mixed hcx ?_ _ _
  refine asg rfl ?_
  refine ⟨by kernel_rfl, ?_⟩
  refine nx sn en ?_
  refine tri_seq ?_
  refine tri_reg mixed hcx ?_ _ _
  refine ca rfl (h := law_square) (hn := ?_)
  refine ca rfl (h := g_Of (b := [[1, 1], [0, 2]]) (k := 2) (m := 2) (S := 10) (K := 45055) (by decide) (by decide) (by decide) (by decide) (by decide) (by decide) (show bld [[1, 1], [0, 2]] 2 = some ([1, 2, 4], [[], [2]]) from by decide) awake_S (by decide) (by decide) (by decide)) (hn := ?_)
  refine mv rfl ?_
  refine ex rfl rfl ?_
  refine ex rfl rfl ?_
  refine nw 115 zeG ?_
  refine sts rfl rfl rfl tyG rfl ?_
  refine asg rfl ?_
  refine ⟨by kernel_rfl, ?_⟩
  refine nx (sl 1 rfl (sl 2 rfl sn)) (el 115 rfl en) ?_
  refine tri_seq ?_
  refine tri_reg mixed hcx ?_ _ _
  refine mv rfl ?_
  refine ceq rfl rfl (decide_eq_true (by omega)) ?_
  refine mv rfl ?_
  refine fa rfl fD 0 ?_ (hg := gd1)
  refine ld rfl rfl tyZs rfl ?_ (hg := gd1)
  refine ca rfl (h := law_n (by omega) (by omega)) (hn := ?_) (hg := gd1)
  refine ca rfl (h := law_n (by omega) (by omega)) (hn := ?_) (hg := gd1)
  refine ca rfl (h := law_n (by omega) (by omega)) (hn := ?_) (hg := gd1)
  refine bs (c := cZ 2) (xs := [1, 2, 4]) slZs rfl ⟨.refl _, .refl _, .refl _, trivial⟩ ?_ (hg := gd1)
  refine ca rfl (h := law_wholes (l := [1, 2, 4]) (by omega) (by decide)) (hn := ?_) (hg := gd1)
  refine pk rfl rfl ?_
  refine mv rfl ?_
  refine fa rfl fL 1 ?_ (hg := gd1)
  refine ld rfl rfl tyZss rfl ?_ (hg := gd1)
  refine ln slZss rfl ?_ (hg := gd1)
  refine ceq rfl rfl (show decide ((([[], [2]] : List (List Int)).length : Int) = 2) = true from by decide) ?_ (hg := gd1)
  refine pk rfl rfl ?_
  refine mv rfl ?_
  refine fa rfl fL 1 ?_ (hg := gd1)
  refine ld rfl rfl tyZss rfl ?_ (hg := gd1)
  refine ix rfl rfl slZss ⟨(rfl : _ = ((1 : Nat) : Int)), by decide⟩ ?_ (hg := gd1)
  refine lf rfl tyZs ?_ (hg := gd1)
  refine ca rfl (h := law_n (by omega) (by omega)) (hn := ?_) (hg := gd1)
  refine bs (c := cZ 2) (xs := [2]) slZs rfl ⟨.refl _, trivial⟩ ?_ (hg := gd1)
  refine ca rfl (h := law_wholes (l := [2]) (by omega) (by decide)) (hn := ?_) (hg := gd1)
  refine pk rfl rfl ?_
  refine asg rfl ?_
  refine ⟨by kernel_rfl, ?_⟩
  refine nx (sl 0 rfl sn) (el 115 rfl en) ?_
  refine tri_ret ?_
  repeat (first | refine pn_thenr ?_ | refine pn_blkr ?_)
  exact ret1 hcx rfl (rv_tmp rfl) (.refl _) en
end Go.Proofs.Ytbihfnjmdpbkgaa.V
