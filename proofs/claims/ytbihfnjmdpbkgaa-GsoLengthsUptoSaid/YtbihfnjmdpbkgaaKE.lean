/- Sums and products of fractions. -/
import Derived.Test.YtbihfnjmdpbkgaaKD
set_option linter.unusedVariables false
set_option linter.unusedSimpArgs false
set_option maxRecDepth 100000
namespace Go.Proofs.Ytbihfnjmdpbkgaa.V
open Go.RowKit Mt Nml
section
variable {P : Program} {x : Code} {Q : Exit → Act → World → Prop} {ctx : Ctx} {n : Nat} {g : List (Nat × T)} {E : List (Nat × Option Ent)}
/-- A box that is written to no more: its pointer tells a place that stands. -/
theorem tri_fzb {et : TypeId} {l : List T} (t e : Nat) (ht : lk g t = some (T.p e 0)) (hE : lkE E e = some (Ent.box et l)) (hl : szs l ≠ 0) (h : Tri P x Q ctx n ((t, T.fp (T.st l)) :: g) ((e, none) :: E)) : Tri P x Q ctx n g E := fun a w hS => h a w (by
  obtain ⟨β, u, F, h1, h2, h3, h4, h5, h6, h7⟩ := hS
  obtain ⟨b, cs, k1, k2, k3, k4⟩ := h4.hold e _ hE
  have hs := h5.sub
  have hd : ∀ k, F e k → Dead u k := fun k hk => (h4.dead e _ k hE hk).1
  have hup := solid_up hs hd
  have hlk : ∀ f X, lkE ((e, none) :: E) f = some X → f ≠ e ∧ lkE E f = some X := fun f X hX => by
    unfold lkE at hX
    rw [lk_cons] at hX
    split at hX
    · cases hX
    · rename_i hne; exact ⟨Ne.symm hne, hX⟩
  refine ⟨β, solid u w (F e), F, h1, h2, fun t' X hX => ?_, ⟨fun f X hX => ?_, fun f X k hX hk => ?_, fun f f' X Y k hX hY hne hk hk' => ?_⟩, ⟨h5.os, h5.tape, h5.output, h5.size, h5.block, h5.old.trans hup, solid_sub hs, fun k hk hc hdk => solid_dead hs (fun hk' => ?_) (h5.dead k hk hc hdk)⟩, fun f X k hX hk => ?_, h7⟩
  · rw [lk_cons] at hX
    split at hX
    · rename_i e1
      subst e1
      cases hX
      obtain ⟨v, q1, b', q2, q3⟩ := h3 t _ ht
      have hb : b' = b := by rw [k1] at q2; cases q2; rfl
      subst hb
      refine ⟨v, q1, ⟨b', 0, none⟩, .agg cs.toArray, q3, hl, ⟨cs, rfl, k4.mono hup⟩, fun j y hy => ?_⟩
      rw [add_none, Nat.zero_add, solid_in hs ((k2 b').2 rfl), cell_of_row w b' j _ et (0, 0) k3]
      simpa [Value.cells] using hy
    · obtain ⟨v, q1, q2⟩ := h3 t' X hX
      exact ⟨v, q1, X.mono hup q2⟩
  · obtain ⟨hne, hX'⟩ := hlk f X hX
    exact X.mono hup (h4.hold f X hX')
  · obtain ⟨hne, hX'⟩ := hlk f X hX
    exact ⟨solid_dead hs (fun hk' => h4.apart f e X _ k hX' hE hne hk hk') (h4.dead f X k hX' hk).1, (h4.dead f X k hX' hk).2⟩
  · exact h4.apart f f' X Y k (hlk f X hX).2 (hlk f' Y hY).2 hne hk hk'
  · rcases h6 e _ k hE hk' with h8 | h8
    · exact hc h8
    · omega
  · exact h6 f X k (hlk f X hX).2 hk)
end
instance (k : Nat) (q : Rat) : Sp ((cQ k).X q) [T.Z q.num k, T.Z (q.den : Int) k] := inferInstanceAs (Sp (T.Q q k) _)
/-- A function value whose captured things hang on no memory of one's own. -/
def T.clo (f : FuncId) (Cs : List T) (h : Cs.flatMap (·.ns) = []) : T := ⟨[], 1, false, (T.fn f Cs).rep, (T.fn f Cs).shp, (T.fn f Cs).mono, fun _ hr => (T.fn f Cs).ext (fun e he => by rw [show (T.fn f Cs).ns = [] from h] at he; cases he) hr⟩
theorem clo_le {f : FuncId} {Cs : List T} {h : Cs.flatMap (·.ns) = []} : (T.fn f Cs).le (T.clo f Cs h) := fun _ _ _ k => k
theorem clo_ge {f : FuncId} {Cs : List T} {h : Cs.flatMap (·.ns) = []} : (T.clo f Cs h).le (T.fn f Cs) := fun _ _ _ k => k
theorem q_eq {q q' : Rat} {k k' : Nat} (h : q = q') (hk : k ≤ k') : (T.Q q k).le (T.Q q' k') := by subst h; exact st_le (l := [T.Z q.num k, T.Z (q.den : Int) k]) (l' := [T.Z q.num k', T.Z (q.den : Int) k']) ⟨z_mono hk, z_mono hk, trivial⟩
theorem den_ne (q : Rat) : ((q.den : Int)) ≠ 0 := by have := q.den_pos; omega
theorem den_sg (q : Rat) : sg (q.den : Int) = 1 := sg_pos (by have := q.den_pos; omega)
theorem rat_adds (q r : Rat) : ((q.num * (r.den : Int) + r.num * (q.den : Int) : Int) : Rat) / (((q.den : Int) * (r.den : Int) : Int) : Rat) = q + r := by
  conv => rhs; rw [← Rat.num_divInt_den q, ← Rat.num_divInt_den r]
  rw [Rat.divInt_add_divInt _ _ (den_ne q) (den_ne r), Rat.divInt_eq_div]
theorem rat_muls (q r : Rat) : ((q.num * r.num : Int) : Rat) / (((q.den : Int) * (r.den : Int) : Int) : Rat) = q * r := by
  conv => rhs; rw [← Rat.num_divInt_den q, ← Rat.num_divInt_den r]
  rw [Rat.divInt_mul_divInt, Rat.divInt_eq_div]

theorem rat_valid {l : List Rat} {k : Nat} (hk : k ≤ 17592186044416) (hl : l.length ≤ 1048576) : Fn Try.prog 158 [T.l (cQ k) l] [] [] [] (T.c (.int .i64 0)) := by
  refine fn_of Try.func158 rfl (by show 1 ≤ 16; decide) fun cx hcx => ?_
  refine tri_sub (sl 0 rfl sn) en ?_
  refine tri_seq ?_
  refine tri_reg mixed hcx ?_ _ _
  refine asg rfl ?_
  refine ⟨by kernel_rfl, ?_⟩
  refine nx (sl 0 rfl sn) en ?_
  refine tri_seq ?_
  refine tri_seq ?_
  refine tri_reg mixed hcx ?_ _ _
  refine mv rfl ?_
  refine ln slQs rfl ?_
  refine mv rfl ?_
  refine ⟨by kernel_rfl, ?_⟩
  refine nx (sl 5 rfl (sl 6 rfl (sl 7 rfl sn))) en ?_
  refine tri_block ?_
  refine tri_loop (ι := Nat) (fun i => [(5, T.l (cQ k) l), (6, T.c (.int .i64 (l.length : Int))), (7, T.c (.int .i64 (i : Int)))]) (fun i => []) (fun i => l.length - i) (fun i => (i ≤ l.length)) 0 (Nat.zero_le _) (sl 5 rfl (sl 6 rfl (sl 7 rfl sn))) en ?_
  rintro i hi
  refine tri_sub (sl 5 rfl (sl 6 rfl (sl 7 rfl sn))) en ?_
  refine tri_seq ?_
  refine tri_reg mixed hcx ?_ _ _
  refine clt rfl rfl rfl ?_
  refine ⟨by kernel_rfl, ?_⟩
  refine nx (sl 5 rfl (sl 6 rfl (sl 7 rfl (sl 8 rfl sn)))) en ?_
  refine tri_seq ?_
  refine tri_if rfl (fun hc => ?_) (fun hc => ?_)
  · have hsg := den_sg (l.getD i (cQ k).dflt)
    refine tri_skip ?_
    refine nx (sl 5 rfl (sl 6 rfl (sl 7 rfl sn))) en ?_
    refine tri_seq ?_
    refine tri_block ?_
    refine tri_seq ?_
    refine tri_reg mixed hcx ?_ _ _
    refine ix rfl rfl slQs ⟨rfl, by omega⟩ ?_
    refine lf rfl tyQ ?_
    refine nw 312 zeQ ?_
    refine sts (zz := [T.Z (l.getD i (cQ k).dflt).num k, T.Z ((l.getD i (cQ k).dflt).den : Int) k]) rfl rfl rfl tyQ rfl ?_
    refine ⟨by kernel_rfl, ?_⟩
    refine nx (sl 4 rfl (sl 5 rfl (sl 6 rfl (sl 7 rfl sn)))) (el 312 rfl en) ?_
    refine tri_seq ?_
    refine tri_reg mixed hcx ?_ _ _
    refine fa rfl fDen 2 ?_
    refine ld rfl rfl tyZ rfl ?_
    refine ca rfl (h := zi_Sign (by omega)) (hn := ?_)
    refine cle rfl rfl (decide_eq_false (by omega)) ?_
    refine ⟨by kernel_rfl, ?_⟩
    refine nx (sl 5 rfl (sl 6 rfl (sl 7 rfl (sl 14 rfl sn)))) (el 312 rfl en) ?_
    refine tri_false rfl rfl ?_
    refine tri_skip ?_
    refine pn_blk ?_
    refine nx (sl 5 rfl (sl 6 rfl (sl 7 rfl sn))) (el 312 rfl en) ?_
    refine tri_reg mixed hcx ?_ _ _
    refine ad (((i + 1 : Nat) : Int)) rfl rfl rfl (by omega) ?_
    refine mv rfl ?_
    refine ⟨by kernel_rfl, ?_⟩
    exact pn_back (i + 1) (by first | omega | (dsimp only; omega)) (by omega) (sl 5 rfl (sl 6 rfl (sl 7 rfl sn))) en
  · refine tri_exit ?_
    repeat (first | refine pn_then ?_ | refine pn_oth (by decide) ?_)
    refine pn_ex ?_
    refine nx sn en ?_
    refine tri_seq ?_
    refine tri_reg mixed hcx ?_ _ _
    refine asg rfl ?_
    refine ⟨by kernel_rfl, ?_⟩
    refine nx (sl 2 rfl sn) en ?_
    refine tri_ret ?_
    repeat (first | refine pn_thenr ?_ | refine pn_blkr ?_)
    exact ret1 hcx rfl (rv_tmp rfl) (.refl _) en

theorem rat_two {q r s : Rat} {k l m : Nat} {f : FuncId} {Cs : List T} (hf : Fn Try.prog f Cs [] [] [] (T.Q s m)) (hen : Enters Try.prog f) (hns : Cs.flatMap (·.ns) = []) (hk : k ≤ 1099511627776) (hl : l ≤ 1099511627776) : Fn Try.prog 159 [T.Q q k, T.Q r l, T.clo f Cs hns] [] [] [] (T.tup [T.Q s m, T.c (.int .i64 0)]) := by
  refine fn_of Try.func159 rfl (by show 3 ≤ 19; decide) fun cx hcx => ?_
  refine tri_sub (sl 0 rfl (sl 1 rfl (sl 2 rfl sn))) en ?_
  refine tri_seq ?_
  refine tri_reg mixed hcx ?_ _ _
  refine bxs 10 rfl ?_
  refine bxs 11 rfl ?_
  refine nw 12 zeQ ?_
  refine asg rfl ?_
  refine ⟨by kernel_rfl, ?_⟩
  refine nx (sl 2 rfl (sl 3 rfl (sl 4 rfl (sl 6 rfl sn)))) (el 10 rfl (el 11 rfl (el 12 rfl en))) ?_
  refine tri_seq ?_
  refine tri_seq ?_
  refine tri_reg mixed hcx ?_ _ _
  refine ld rfl rfl tyQ rfl ?_
  refine ld rfl rfl tyQ rfl ?_
  refine bs (c := cQ (k + l)) (xs := [q, r]) slQs rfl ⟨q_eq rfl (by omega), q_eq rfl (by omega), trivial⟩ ?_
  refine ca rfl (h := rat_valid (by omega) (by simp)) (hn := ?_)
  refine asg rfl ?_
  refine ⟨by kernel_rfl, ?_⟩
  refine nx (sl 2 rfl (sl 6 rfl (sl 8 rfl sn))) (el 10 rfl (el 11 rfl (el 12 rfl en))) ?_
  refine tri_seq ?_
  refine tri_reg mixed hcx ?_ _ _
  refine mv rfl ?_
  refine cne rfl rfl (decide_eq_false (by omega)) ?_
  refine ⟨by kernel_rfl, ?_⟩
  refine nx (sl 2 rfl (sl 6 rfl (sl 8 rfl (sl 14 rfl sn)))) (el 10 rfl (el 11 rfl (el 12 rfl en))) ?_
  refine tri_false rfl rfl ?_
  refine tri_skip ?_
  refine nx (sl 2 rfl (sl 6 rfl sn)) (el 10 rfl (el 11 rfl (el 12 rfl en))) ?_
  refine tri_seq ?_
  refine tri_as 2 (Z := T.fn f Cs) rfl clo_ge ?_
  refine tri_reg mixed hcx ?_ _ _
  refine mv rfl ?_
  refine cf rfl rfl hf hen ?_
  refine st rfl rfl rfl tyQ rfl ?_
  refine asg rfl ?_
  refine ⟨by kernel_rfl, ?_⟩
  refine nx (sl 6 rfl (sl 7 rfl sn)) (el 10 rfl (el 11 rfl (el 12 rfl en))) ?_
  refine tri_ret ?_
  repeat (first | refine pn_thenr ?_ | refine pn_blkr ?_)
  exact ret2 hcx rfl (rv_cell (c' := cx) (n := 0) rfl rfl tyQ rfl) (rv_tmp rfl) (.refl _) en

theorem rat_Add1 {q r : Rat} {k l : Nat} (hk : k ≤ 137438953472) (hl : l ≤ 137438953472) : Fn Try.prog 160 [T.fp (T.Q q k), T.fp (T.Q r l)] [] [] [] (T.Q (q + r) (3 * (k + l) + 1)) := by
  refine fn_of Try.func160 rfl (by show 2 ≤ 20; decide) fun cx hcx => ?_
  refine tri_sub (sl 0 rfl (sl 1 rfl sn)) en ?_
  have hd1 := den_ne q; have hd2 := den_ne r; have hdd : (q.den : Int) * (r.den : Int) ≠ 0 := Int.mul_ne_zero hd1 hd2
  refine tri_seq ?_
  refine tri_reg mixed hcx ?_ _ _
  refine nw 10 zeQ ?_
  refine ⟨by kernel_rfl, ?_⟩
  refine nx (sl 0 rfl (sl 1 rfl (sl 2 rfl sn))) (el 10 rfl en) ?_
  refine tri_seq ?_
  refine tri_reg mixed hcx ?_ _ _
  refine ff rfl fNum rfl ?_
  refine lf rfl tyZ ?_
  refine ff rfl fDen rfl ?_
  refine lf rfl tyZ ?_
  refine ca rfl (h := zi_Mul (by omega) (by omega)) (hn := ?_)
  refine ff rfl fNum rfl ?_
  refine lf rfl tyZ ?_
  refine ff rfl fDen rfl ?_
  refine lf rfl tyZ ?_
  refine ca rfl (h := zi_Mul (by omega) (by omega)) (hn := ?_)
  refine ca rfl (h := zi_Add (by omega) (by omega)) (hn := ?_)
  refine ff rfl fDen rfl ?_
  refine lf rfl tyZ ?_
  refine ff rfl fDen rfl ?_
  refine lf rfl tyZ ?_
  refine ca rfl (h := zi_Mul (by omega) (by omega)) (hn := ?_)
  refine ca rfl (h := rat_mk (by assumption) (by omega) (by omega)) (hn := ?_)
  refine st rfl rfl rfl tyQ rfl ?_
  refine ⟨by kernel_rfl, ?_⟩
  refine nx (sl 2 rfl sn) (el 10 rfl en) ?_
  refine tri_ret ?_
  repeat (first | refine pn_thenr ?_ | refine pn_blkr ?_)
  exact ret1 hcx rfl (rv_cell (c' := cx) (n := 0) rfl rfl tyQ rfl) (q_eq (rat_adds q r) (by omega)) en

theorem rat_Mul1 {q r : Rat} {k l : Nat} (hk : k ≤ 137438953472) (hl : l ≤ 137438953472) : Fn Try.prog 161 [T.fp (T.Q q k), T.fp (T.Q r l)] [] [] [] (T.Q (q * r) (2 * (k + l))) := by
  refine fn_of Try.func161 rfl (by show 2 ≤ 14; decide) fun cx hcx => ?_
  refine tri_sub (sl 0 rfl (sl 1 rfl sn)) en ?_
  have hd1 := den_ne q; have hd2 := den_ne r; have hdd : (q.den : Int) * (r.den : Int) ≠ 0 := Int.mul_ne_zero hd1 hd2
  refine tri_seq ?_
  refine tri_reg mixed hcx ?_ _ _
  refine nw 10 zeQ ?_
  refine ⟨by kernel_rfl, ?_⟩
  refine nx (sl 0 rfl (sl 1 rfl (sl 2 rfl sn))) (el 10 rfl en) ?_
  refine tri_seq ?_
  refine tri_reg mixed hcx ?_ _ _
  refine ff rfl fNum rfl ?_
  refine lf rfl tyZ ?_
  refine ff rfl fNum rfl ?_
  refine lf rfl tyZ ?_
  refine ca rfl (h := zi_Mul (by omega) (by omega)) (hn := ?_)
  refine ff rfl fDen rfl ?_
  refine lf rfl tyZ ?_
  refine ff rfl fDen rfl ?_
  refine lf rfl tyZ ?_
  refine ca rfl (h := zi_Mul (by omega) (by omega)) (hn := ?_)
  refine ca rfl (h := rat_mk (by assumption) (by omega) (by omega)) (hn := ?_)
  refine st rfl rfl rfl tyQ rfl ?_
  refine ⟨by kernel_rfl, ?_⟩
  refine nx (sl 2 rfl sn) (el 10 rfl en) ?_
  refine tri_ret ?_
  repeat (first | refine pn_thenr ?_ | refine pn_blkr ?_)
  exact ret1 hcx rfl (rv_cell (c' := cx) (n := 0) rfl rfl tyQ rfl) (q_eq (rat_muls q r) (by omega)) en

theorem rat_Add {q r : Rat} {k l : Nat} (hk : k ≤ 137438953472) (hl : l ≤ 137438953472) : Fn Try.prog 122 [T.Q q k, T.Q r l] [] [] [] (T.tup [T.Q (q + r) (3 * (k + l) + 1), T.c (.int .i64 0)]) := by
  refine fn_of Try.func122 rfl (by show 2 ≤ 12; decide) fun cx hcx => ?_
  refine tri_sub (sl 0 rfl (sl 1 rfl sn)) en ?_
  have hfn := rat_Add1 (q := q) (r := r) hk hl
  have hclo := clo_le (f := 160) (Cs := [T.fp (T.Q q k), T.fp (T.Q r l)]) (h := rfl)
  refine tri_seq ?_
  refine tri_reg mixed hcx ?_ _ _
  refine bxs 10 rfl ?_
  refine bxs 11 rfl ?_
  refine nw 12 zeQ ?_
  refine asg rfl ?_
  refine ⟨by kernel_rfl, ?_⟩
  refine nx (sl 2 rfl (sl 3 rfl (sl 4 rfl sn))) (el 10 rfl (el 11 rfl (el 12 rfl en))) ?_
  refine tri_seq ?_
  refine tri_fzb 2 10 rfl rfl (by show (4 : Nat) ≠ 0; decide) ?_
  refine tri_fzb 3 11 rfl rfl (by show (4 : Nat) ≠ 0; decide) ?_
  refine tri_sub (sl 2 rfl (sl 3 rfl (sl 4 rfl sn))) (el 12 rfl en) ?_
  refine tri_reg mixed hcx ?_ _ _
  refine lf rfl tyQ ?_
  refine lf rfl tyQ ?_
  refine mf rfl ?_
  refine ca rfl (h := rat_two hfn (by intro a w; kernel_rfl) rfl (by omega) (by omega)) (hn := ?_)
  refine ex rfl rfl ?_
  refine ex rfl rfl ?_
  refine st rfl rfl rfl tyQ rfl ?_
  refine asg rfl ?_
  refine ⟨by kernel_rfl, ?_⟩
  refine nx (sl 4 rfl (sl 5 rfl sn)) (el 12 rfl en) ?_
  refine tri_ret ?_
  repeat (first | refine pn_thenr ?_ | refine pn_blkr ?_)
  exact ret2 hcx rfl (rv_cell (c' := cx) (n := 0) rfl rfl tyQ rfl) (rv_tmp rfl) (.refl _) en

theorem rat_Mul {q r : Rat} {k l : Nat} (hk : k ≤ 137438953472) (hl : l ≤ 137438953472) : Fn Try.prog 123 [T.Q q k, T.Q r l] [] [] [] (T.tup [T.Q (q * r) (2 * (k + l)), T.c (.int .i64 0)]) := by
  refine fn_of Try.func123 rfl (by show 2 ≤ 12; decide) fun cx hcx => ?_
  refine tri_sub (sl 0 rfl (sl 1 rfl sn)) en ?_
  have hfn := rat_Mul1 (q := q) (r := r) hk hl
  have hclo := clo_le (f := 161) (Cs := [T.fp (T.Q q k), T.fp (T.Q r l)]) (h := rfl)
  refine tri_seq ?_
  refine tri_reg mixed hcx ?_ _ _
  refine bxs 10 rfl ?_
  refine bxs 11 rfl ?_
  refine nw 12 zeQ ?_
  refine asg rfl ?_
  refine ⟨by kernel_rfl, ?_⟩
  refine nx (sl 2 rfl (sl 3 rfl (sl 4 rfl sn))) (el 10 rfl (el 11 rfl (el 12 rfl en))) ?_
  refine tri_seq ?_
  refine tri_fzb 2 10 rfl rfl (by show (4 : Nat) ≠ 0; decide) ?_
  refine tri_fzb 3 11 rfl rfl (by show (4 : Nat) ≠ 0; decide) ?_
  refine tri_sub (sl 2 rfl (sl 3 rfl (sl 4 rfl sn))) (el 12 rfl en) ?_
  refine tri_reg mixed hcx ?_ _ _
  refine lf rfl tyQ ?_
  refine lf rfl tyQ ?_
  refine mf rfl ?_
  refine ca rfl (h := rat_two hfn (by intro a w; kernel_rfl) rfl (by omega) (by omega)) (hn := ?_)
  refine ex rfl rfl ?_
  refine ex rfl rfl ?_
  refine st rfl rfl rfl tyQ rfl ?_
  refine asg rfl ?_
  refine ⟨by kernel_rfl, ?_⟩
  refine nx (sl 4 rfl (sl 5 rfl sn)) (el 12 rfl en) ?_
  refine tri_ret ?_
  repeat (first | refine pn_thenr ?_ | refine pn_blkr ?_)
  exact ret2 hcx rfl (rv_cell (c' := cx) (n := 0) rfl rfl tyQ rfl) (rv_tmp rfl) (.refl _) en
end Go.Proofs.Ytbihfnjmdpbkgaa.V
