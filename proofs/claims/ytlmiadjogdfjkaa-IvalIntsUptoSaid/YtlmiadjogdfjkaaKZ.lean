/- Whole numbers between floats: around and OfInt. -/
import Derived.Test.YtlmiadjogdfjkaaKY
import Derived.Test.YtlmiadjogdfjkaaKN
set_option linter.unusedVariables false
set_option linter.unusedSimpArgs false
set_option maxRecDepth 100000
namespace Go.Proofs.Ytlmiadjogdfjkaa.V
open Go.RowKit Mt Nml
theorem flat4 (A B C D : T) : (T.st [T.st [A, B], T.st [C, D]]).le (T.st [A, B, C, D]) := fun β u v h => by
  obtain ⟨cs, hv, v1, r1, _, ⟨cs1, e1, va, ra, ha0, ha, ea, vb, rb, hb0, hb, eb, hn⟩, ec, v2, r2, _, ⟨cs2, e2, vc, rc, hc0, hc, eC, vd, rd, hd0, hd, ed, hm⟩, ec2, h3⟩ := h
  have z1 : rb = [] := hn
  have z2 : rd = [] := hm
  have z3 : r2 = [] := h3
  subst z1 z2 z3 e1 e2
  refine ⟨cs, hv, va, vb.cells.toList ++ (vc.cells.toList ++ vd.cells.toList), ha0, ha, ?_, vb, vc.cells.toList ++ vd.cells.toList, hb0, hb, rfl, vc, vd.cells.toList, hc0, hc, rfl, vd, [], hd0, hd, (List.append_nil _).symm, rfl⟩
  rw [ec, ec2, ea, eb, eC, ed]
  simp [Value.cells]
theorem sg_three (z : Int) : (0 < z ∧ sg z = 1) ∨ (z < 0 ∧ sg z = -1) ∨ (z = 0 ∧ sg z = 0) := by unfold sg sgnc; split <;> (try split) <;> omega
theorem z_sp2 (z : Int) (k k2 : Nat) : (T.st [T.Z z k, T.Z 1 k2]).le (T.st [T.c (.bool (decide (z < 0))), T.l cU (dig z.natAbs), T.c (.bool false), T.l cU (dig 1)]) := (st_le (l := [T.Z z k, T.Z 1 k2]) (l' := [T.st [T.c (.bool (decide (z < 0))), T.l cU (dig z.natAbs)], T.st [T.c (.bool (decide ((1 : Int) < 0))), T.l cU (dig (1 : Int).natAbs)]]) ⟨Sp.le, Sp.le, trivial⟩).trans (flat4 _ _ _ _)
theorem pl_eo (o : Option Nat) : oPl o = o ∨ oEq (oPl o) o = true := by
  unfold oPl
  split
  · rename_i h
    right
    rw [oEq_comm, ← fo0]; exact h
  · exact .inl rfl
theorem iv_floorQ {N k l : Nat} {q : Bool} (hq : flx N = q) (hN : 0 < N) (hk : k ≤ 1099511627776) (hl : l ≤ 1099511627776) (hb : nbits N ≤ 1152921504606846976) : Fn Try.prog 71 [T.L N k, T.L 1 l] [] [] [] (T.tup [T.F (some (flw N)), T.c (.bool q)]) := hq ▸ iv_floor1 hN hk hl hb
def gz (N : Nat) : Option Nat := if flx N = true then some (flw N) else oUp (some (flw N))
theorem gz_t {N : Nat} (h : flx N = true) : some (flw N) = gz N := (if_pos h).symm
theorem gz_f {N : Nat} (h : flx N = false) : oUp (some (flw N)) = gz N := (if_neg (by rw [h]; decide)).symm

theorem v2_le {A B A' B' : T} (h : A.le A') (h2 : B.le B') (hA : A.sz = A'.sz := by rfl) (hB : B.sz = B'.sz := by rfl) : (T.st [A, B]).le (T.st [A', B']) := st_le (l := [A, B]) (l' := [A', B']) ⟨h, h2, trivial⟩ (by simp only [List.map_cons, List.map_nil, hA, hB])

theorem iv_around_p {z : Int} {k k2 : Nat} (hb : nbits z.natAbs ≤ 1099511627776) (hz : 0 < z) : Fn Try.prog 44 [T.st [T.Z z k, T.Z 1 k2]] [] [] [] (T.st [T.F (oPl (some (flw z.natAbs))), T.F (oPl (gz z.natAbs))]) := by
  refine fn_of Try.func44 rfl (by show 1 ≤ 42; decide) fun cx hcx => ?_
  refine tri_sub (sl 0 rfl sn) en ?_
  refine tri_as 0 (Z := T.st [T.c (.bool (decide (z < 0))), T.l cU (dig z.natAbs), T.c (.bool false), T.l cU (dig 1)]) rfl (z_sp2 z k k2) ?_
  have hsg := sg_three z
  have hq : (T.st [T.c (.bool (decide (z < 0))), T.l cU (dig z.natAbs)]).le (T.Zi z (lim z.natAbs)) := zi_of (dig_lim _) (iv_natAbs z).symm (Nat.le_refl _)
  have hlm := lim_bits z.natAbs
  have hl1 := lim_bits 1
  rw [one_bits] at hl1
  have hzl : zl z = lim z.natAbs := rfl
  refine tri_seq ?_
  refine tri_reg mixed hcx ?_ _ _
  refine bxs 10 rfl ?_
  refine nw 11 zeV ?_
  refine ⟨by kernel_rfl, ?_⟩
  refine nx (sl 1 rfl (sl 2 rfl sn)) (el 10 rfl (el 11 rfl en)) ?_
  refine tri_seq ?_
  refine tri_reg mixed hcx ?_ _ _
  refine fa rfl fNum 0 ?_
  refine ld rfl rfl tyZ rfl ?_
  refine ca rfl (h := zi_Sign (by omega)) (hn := ?_)
  refine asg rfl ?_
  refine ⟨by kernel_rfl, ?_⟩
  refine nx (sl 1 rfl (sl 2 rfl (sl 3 rfl sn))) (el 10 rfl (el 11 rfl en)) ?_
  refine tri_seq ?_
  refine tri_seq ?_
  refine tri_reg mixed hcx ?_ _ _
  refine mv rfl ?_
  refine ceq rfl rfl (decide_eq_false (by omega)) ?_
  refine ⟨by kernel_rfl, ?_⟩
  refine nx (sl 1 rfl (sl 2 rfl (sl 3 rfl (sl 11 rfl sn)))) (el 10 rfl (el 11 rfl en)) ?_
  refine tri_false rfl rfl ?_
  refine tri_skip ?_
  refine nx (sl 1 rfl (sl 2 rfl (sl 3 rfl sn))) (el 10 rfl (el 11 rfl en)) ?_
  refine tri_seq ?_
  rcases Bool.eq_false_or_eq_true (flx z.natAbs) with h9 | h9
  · refine tri_reg mixed hcx ?_ _ _
    refine fa rfl fNum 0 ?_
    refine fa rfl fMag 1 ?_
    refine ld rfl rfl tyLs rfl ?_
    refine fa rfl fDen 2 ?_
    refine fa rfl fMag 3 ?_
    refine ld rfl rfl tyLs rfl ?_
    refine ca rfl (h := iv_floorQ h9 (by omega) (by omega) (by omega) (by omega)) (hn := ?_)
    refine mv rfl ?_
    refine ex rfl rfl ?_
    refine ex rfl rfl ?_
    refine asg rfl ?_
    refine asg rfl ?_
    refine ⟨by kernel_rfl, ?_⟩
    refine nx (sl 2 rfl (sl 3 rfl (sl 4 rfl (sl 5 rfl sn)))) (el 10 rfl (el 11 rfl en)) ?_
    refine tri_seq ?_
    refine tri_reg mixed hcx ?_ _ _
    refine mv rfl ?_
    refine asg rfl ?_
    refine ⟨by kernel_rfl, ?_⟩
    refine nx (sl 2 rfl (sl 3 rfl (sl 4 rfl (sl 5 rfl (sl 6 rfl sn))))) (el 10 rfl (el 11 rfl en)) ?_
    refine tri_seq ?_
    refine tri_seq ?_
    refine tri_reg mixed hcx ?_ _ _
    refine mv rfl ?_
    refine nt rfl _ rfl ?_
    refine ⟨by kernel_rfl, ?_⟩
    refine nx (sl 2 rfl (sl 3 rfl (sl 4 rfl (sl 6 rfl (sl 25 rfl sn))))) (el 10 rfl (el 11 rfl en)) ?_
    refine tri_false rfl rfl ?_
    refine tri_skip ?_
    refine nx (sl 2 rfl (sl 3 rfl (sl 4 rfl (sl 6 rfl sn)))) (el 10 rfl (el 11 rfl en)) ?_
    refine tri_seq ?_
    refine tri_seq ?_
    refine tri_reg mixed hcx ?_ _ _
    refine mv rfl ?_
    refine clt rfl rfl (decide_eq_false (by omega)) ?_
    refine ⟨by kernel_rfl, ?_⟩
    refine nx (sl 2 rfl (sl 4 rfl (sl 6 rfl (sl 29 rfl sn)))) (el 10 rfl (el 11 rfl en)) ?_
    refine tri_false rfl rfl ?_
    refine tri_skip ?_
    refine nx (sl 2 rfl (sl 4 rfl (sl 6 rfl sn))) (el 10 rfl (el 11 rfl en)) ?_
    refine tri_seq ?_
    refine tri_reg mixed hcx ?_ _ _
    refine mv rfl ?_
    refine caf rfl (h := iv_plus) (hn := ?_)
    refine mv rfl ?_
    refine caf rfl (h := iv_plus) (hn := ?_)
    refine bu stV rfl ?_
    refine sts rfl rfl rfl tyV rfl ?_
    refine ⟨by kernel_rfl, ?_⟩
    refine nx (sl 2 rfl sn) (el 10 rfl (el 11 rfl en)) ?_
    refine tri_ret ?_
    repeat (first | refine pn_thenr ?_ | refine pn_blkr ?_)
    exact ret1 hcx rfl (rv_cell (c' := cx) (n := 0) rfl rfl tyV rfl) (v2_le (f_eq rfl) (f_eq (congrArg oPl (gz_t h9)))) en
  · refine tri_reg mixed hcx ?_ _ _
    refine fa rfl fNum 0 ?_
    refine fa rfl fMag 1 ?_
    refine ld rfl rfl tyLs rfl ?_
    refine fa rfl fDen 2 ?_
    refine fa rfl fMag 3 ?_
    refine ld rfl rfl tyLs rfl ?_
    refine ca rfl (h := iv_floorQ h9 (by omega) (by omega) (by omega) (by omega)) (hn := ?_)
    refine mv rfl ?_
    refine ex rfl rfl ?_
    refine ex rfl rfl ?_
    refine asg rfl ?_
    refine asg rfl ?_
    refine ⟨by kernel_rfl, ?_⟩
    refine nx (sl 2 rfl (sl 3 rfl (sl 4 rfl (sl 5 rfl sn)))) (el 10 rfl (el 11 rfl en)) ?_
    refine tri_seq ?_
    refine tri_reg mixed hcx ?_ _ _
    refine mv rfl ?_
    refine asg rfl ?_
    refine ⟨by kernel_rfl, ?_⟩
    refine nx (sl 2 rfl (sl 3 rfl (sl 4 rfl (sl 5 rfl (sl 6 rfl sn))))) (el 10 rfl (el 11 rfl en)) ?_
    refine tri_seq ?_
    refine tri_seq ?_
    refine tri_reg mixed hcx ?_ _ _
    refine mv rfl ?_
    refine nt rfl _ rfl ?_
    refine ⟨by kernel_rfl, ?_⟩
    refine nx (sl 2 rfl (sl 3 rfl (sl 4 rfl (sl 6 rfl (sl 25 rfl sn))))) (el 10 rfl (el 11 rfl en)) ?_
    refine tri_true rfl rfl ?_
    refine tri_reg mixed hcx ?_ _ _
    refine mv rfl ?_
    refine caf rfl (h := iv_Up) (hn := ?_)
    refine asg rfl ?_
    refine ⟨by kernel_rfl, ?_⟩
    refine nx (sl 2 rfl (sl 3 rfl (sl 4 rfl (sl 6 rfl sn)))) (el 10 rfl (el 11 rfl en)) ?_
    refine tri_seq ?_
    refine tri_seq ?_
    refine tri_reg mixed hcx ?_ _ _
    refine mv rfl ?_
    refine clt rfl rfl (decide_eq_false (by omega)) ?_
    refine ⟨by kernel_rfl, ?_⟩
    refine nx (sl 2 rfl (sl 4 rfl (sl 6 rfl (sl 29 rfl sn)))) (el 10 rfl (el 11 rfl en)) ?_
    refine tri_false rfl rfl ?_
    refine tri_skip ?_
    refine nx (sl 2 rfl (sl 4 rfl (sl 6 rfl sn))) (el 10 rfl (el 11 rfl en)) ?_
    refine tri_seq ?_
    refine tri_reg mixed hcx ?_ _ _
    refine mv rfl ?_
    refine caf rfl (h := iv_plus) (hn := ?_)
    refine mv rfl ?_
    refine caf rfl (h := iv_plus) (hn := ?_)
    refine bu stV rfl ?_
    refine sts rfl rfl rfl tyV rfl ?_
    refine ⟨by kernel_rfl, ?_⟩
    refine nx (sl 2 rfl sn) (el 10 rfl (el 11 rfl en)) ?_
    refine tri_ret ?_
    repeat (first | refine pn_thenr ?_ | refine pn_blkr ?_)
    exact ret1 hcx rfl (rv_cell (c' := cx) (n := 0) rfl rfl tyV rfl) (v2_le (f_eq rfl) (f_eq (congrArg oPl (gz_f h9)))) en

theorem iv_around_m {z : Int} {k k2 : Nat} (hb : nbits z.natAbs ≤ 1099511627776) (hz : z < 0) : Fn Try.prog 44 [T.st [T.Z z k, T.Z 1 k2]] [] [] [] (T.st [T.F (oPl (ong (gz z.natAbs))), T.F (oPl (ong (some (flw z.natAbs))))]) := by
  refine fn_of Try.func44 rfl (by show 1 ≤ 42; decide) fun cx hcx => ?_
  refine tri_sub (sl 0 rfl sn) en ?_
  refine tri_as 0 (Z := T.st [T.c (.bool (decide (z < 0))), T.l cU (dig z.natAbs), T.c (.bool false), T.l cU (dig 1)]) rfl (z_sp2 z k k2) ?_
  have hsg := sg_three z
  have hq : (T.st [T.c (.bool (decide (z < 0))), T.l cU (dig z.natAbs)]).le (T.Zi z (lim z.natAbs)) := zi_of (dig_lim _) (iv_natAbs z).symm (Nat.le_refl _)
  have hlm := lim_bits z.natAbs
  have hl1 := lim_bits 1
  rw [one_bits] at hl1
  have hzl : zl z = lim z.natAbs := rfl
  refine tri_seq ?_
  refine tri_reg mixed hcx ?_ _ _
  refine bxs 10 rfl ?_
  refine nw 11 zeV ?_
  refine ⟨by kernel_rfl, ?_⟩
  refine nx (sl 1 rfl (sl 2 rfl sn)) (el 10 rfl (el 11 rfl en)) ?_
  refine tri_seq ?_
  refine tri_reg mixed hcx ?_ _ _
  refine fa rfl fNum 0 ?_
  refine ld rfl rfl tyZ rfl ?_
  refine ca rfl (h := zi_Sign (by omega)) (hn := ?_)
  refine asg rfl ?_
  refine ⟨by kernel_rfl, ?_⟩
  refine nx (sl 1 rfl (sl 2 rfl (sl 3 rfl sn))) (el 10 rfl (el 11 rfl en)) ?_
  refine tri_seq ?_
  refine tri_seq ?_
  refine tri_reg mixed hcx ?_ _ _
  refine mv rfl ?_
  refine ceq rfl rfl (decide_eq_false (by omega)) ?_
  refine ⟨by kernel_rfl, ?_⟩
  refine nx (sl 1 rfl (sl 2 rfl (sl 3 rfl (sl 11 rfl sn)))) (el 10 rfl (el 11 rfl en)) ?_
  refine tri_false rfl rfl ?_
  refine tri_skip ?_
  refine nx (sl 1 rfl (sl 2 rfl (sl 3 rfl sn))) (el 10 rfl (el 11 rfl en)) ?_
  refine tri_seq ?_
  rcases Bool.eq_false_or_eq_true (flx z.natAbs) with h9 | h9
  · refine tri_reg mixed hcx ?_ _ _
    refine fa rfl fNum 0 ?_
    refine fa rfl fMag 1 ?_
    refine ld rfl rfl tyLs rfl ?_
    refine fa rfl fDen 2 ?_
    refine fa rfl fMag 3 ?_
    refine ld rfl rfl tyLs rfl ?_
    refine ca rfl (h := iv_floorQ h9 (by omega) (by omega) (by omega) (by omega)) (hn := ?_)
    refine mv rfl ?_
    refine ex rfl rfl ?_
    refine ex rfl rfl ?_
    refine asg rfl ?_
    refine asg rfl ?_
    refine ⟨by kernel_rfl, ?_⟩
    refine nx (sl 2 rfl (sl 3 rfl (sl 4 rfl (sl 5 rfl sn)))) (el 10 rfl (el 11 rfl en)) ?_
    refine tri_seq ?_
    refine tri_reg mixed hcx ?_ _ _
    refine mv rfl ?_
    refine asg rfl ?_
    refine ⟨by kernel_rfl, ?_⟩
    refine nx (sl 2 rfl (sl 3 rfl (sl 4 rfl (sl 5 rfl (sl 6 rfl sn))))) (el 10 rfl (el 11 rfl en)) ?_
    refine tri_seq ?_
    refine tri_seq ?_
    refine tri_reg mixed hcx ?_ _ _
    refine mv rfl ?_
    refine nt rfl _ rfl ?_
    refine ⟨by kernel_rfl, ?_⟩
    refine nx (sl 2 rfl (sl 3 rfl (sl 4 rfl (sl 6 rfl (sl 25 rfl sn))))) (el 10 rfl (el 11 rfl en)) ?_
    refine tri_false rfl rfl ?_
    refine tri_skip ?_
    refine nx (sl 2 rfl (sl 3 rfl (sl 4 rfl (sl 6 rfl sn)))) (el 10 rfl (el 11 rfl en)) ?_
    refine tri_seq ?_
    refine tri_seq ?_
    refine tri_reg mixed hcx ?_ _ _
    refine mv rfl ?_
    refine clt rfl rfl (decide_eq_true (by omega)) ?_
    refine ⟨by kernel_rfl, ?_⟩
    refine nx (sl 2 rfl (sl 4 rfl (sl 6 rfl (sl 29 rfl sn)))) (el 10 rfl (el 11 rfl en)) ?_
    refine tri_true rfl rfl ?_
    refine tri_seq ?_
    refine tri_reg mixed hcx ?_ _ _
    refine mv rfl ?_
    refine fng rfl ?_
    refine caf rfl (h := iv_plus) (hn := ?_)
    refine mv rfl ?_
    refine fng rfl ?_
    refine caf rfl (h := iv_plus) (hn := ?_)
    refine bu stV rfl ?_
    refine sts rfl rfl rfl tyV rfl ?_
    refine ⟨by kernel_rfl, ?_⟩
    refine nx (sl 2 rfl sn) (el 10 rfl (el 11 rfl en)) ?_
    refine tri_ret ?_
    repeat (first | refine pn_thenr ?_ | refine pn_blkr ?_)
    exact ret1 hcx rfl (rv_cell (c' := cx) (n := 0) rfl rfl tyV rfl) (v2_le (f_eq (congrArg (fun o => oPl (ong o)) (gz_t h9))) (f_eq rfl)) en
  · refine tri_reg mixed hcx ?_ _ _
    refine fa rfl fNum 0 ?_
    refine fa rfl fMag 1 ?_
    refine ld rfl rfl tyLs rfl ?_
    refine fa rfl fDen 2 ?_
    refine fa rfl fMag 3 ?_
    refine ld rfl rfl tyLs rfl ?_
    refine ca rfl (h := iv_floorQ h9 (by omega) (by omega) (by omega) (by omega)) (hn := ?_)
    refine mv rfl ?_
    refine ex rfl rfl ?_
    refine ex rfl rfl ?_
    refine asg rfl ?_
    refine asg rfl ?_
    refine ⟨by kernel_rfl, ?_⟩
    refine nx (sl 2 rfl (sl 3 rfl (sl 4 rfl (sl 5 rfl sn)))) (el 10 rfl (el 11 rfl en)) ?_
    refine tri_seq ?_
    refine tri_reg mixed hcx ?_ _ _
    refine mv rfl ?_
    refine asg rfl ?_
    refine ⟨by kernel_rfl, ?_⟩
    refine nx (sl 2 rfl (sl 3 rfl (sl 4 rfl (sl 5 rfl (sl 6 rfl sn))))) (el 10 rfl (el 11 rfl en)) ?_
    refine tri_seq ?_
    refine tri_seq ?_
    refine tri_reg mixed hcx ?_ _ _
    refine mv rfl ?_
    refine nt rfl _ rfl ?_
    refine ⟨by kernel_rfl, ?_⟩
    refine nx (sl 2 rfl (sl 3 rfl (sl 4 rfl (sl 6 rfl (sl 25 rfl sn))))) (el 10 rfl (el 11 rfl en)) ?_
    refine tri_true rfl rfl ?_
    refine tri_reg mixed hcx ?_ _ _
    refine mv rfl ?_
    refine caf rfl (h := iv_Up) (hn := ?_)
    refine asg rfl ?_
    refine ⟨by kernel_rfl, ?_⟩
    refine nx (sl 2 rfl (sl 3 rfl (sl 4 rfl (sl 6 rfl sn)))) (el 10 rfl (el 11 rfl en)) ?_
    refine tri_seq ?_
    refine tri_seq ?_
    refine tri_reg mixed hcx ?_ _ _
    refine mv rfl ?_
    refine clt rfl rfl (decide_eq_true (by omega)) ?_
    refine ⟨by kernel_rfl, ?_⟩
    refine nx (sl 2 rfl (sl 4 rfl (sl 6 rfl (sl 29 rfl sn)))) (el 10 rfl (el 11 rfl en)) ?_
    refine tri_true rfl rfl ?_
    refine tri_seq ?_
    refine tri_reg mixed hcx ?_ _ _
    refine mv rfl ?_
    refine fng rfl ?_
    refine caf rfl (h := iv_plus) (hn := ?_)
    refine mv rfl ?_
    refine fng rfl ?_
    refine caf rfl (h := iv_plus) (hn := ?_)
    refine bu stV rfl ?_
    refine sts rfl rfl rfl tyV rfl ?_
    refine ⟨by kernel_rfl, ?_⟩
    refine nx (sl 2 rfl sn) (el 10 rfl (el 11 rfl en)) ?_
    refine tri_ret ?_
    repeat (first | refine pn_thenr ?_ | refine pn_blkr ?_)
    exact ret1 hcx rfl (rv_cell (c' := cx) (n := 0) rfl rfl tyV rfl) (v2_le (f_eq (congrArg (fun o => oPl (ong o)) (gz_f h9))) (f_eq rfl)) en

theorem iv_around_z {z : Int} {k k2 : Nat} (hb : nbits z.natAbs ≤ 1099511627776) (hz : z = 0) : Fn Try.prog 44 [T.st [T.Z z k, T.Z 1 k2]] [] [] [] (T.st [T.F (some 0), T.F (some 0)]) := by
  refine fn_of Try.func44 rfl (by show 1 ≤ 42; decide) fun cx hcx => ?_
  refine tri_sub (sl 0 rfl sn) en ?_
  refine tri_as 0 (Z := T.st [T.c (.bool (decide (z < 0))), T.l cU (dig z.natAbs), T.c (.bool false), T.l cU (dig 1)]) rfl (z_sp2 z k k2) ?_
  have hsg := sg_three z
  have hq : (T.st [T.c (.bool (decide (z < 0))), T.l cU (dig z.natAbs)]).le (T.Zi z (lim z.natAbs)) := zi_of (dig_lim _) (iv_natAbs z).symm (Nat.le_refl _)
  have hlm := lim_bits z.natAbs
  have hl1 := lim_bits 1
  rw [one_bits] at hl1
  have hzl : zl z = lim z.natAbs := rfl
  refine tri_seq ?_
  refine tri_reg mixed hcx ?_ _ _
  refine bxs 10 rfl ?_
  refine nw 11 zeV ?_
  refine ⟨by kernel_rfl, ?_⟩
  refine nx (sl 1 rfl (sl 2 rfl sn)) (el 10 rfl (el 11 rfl en)) ?_
  refine tri_seq ?_
  refine tri_reg mixed hcx ?_ _ _
  refine fa rfl fNum 0 ?_
  refine ld rfl rfl tyZ rfl ?_
  refine ca rfl (h := zi_Sign (by omega)) (hn := ?_)
  refine asg rfl ?_
  refine ⟨by kernel_rfl, ?_⟩
  refine nx (sl 1 rfl (sl 2 rfl (sl 3 rfl sn))) (el 10 rfl (el 11 rfl en)) ?_
  refine tri_seq ?_
  refine tri_seq ?_
  refine tri_reg mixed hcx ?_ _ _
  refine mv rfl ?_
  refine ceq rfl rfl (decide_eq_true (by omega)) ?_
  refine ⟨by kernel_rfl, ?_⟩
  refine nx (sl 1 rfl (sl 2 rfl (sl 3 rfl (sl 11 rfl sn)))) (el 10 rfl (el 11 rfl en)) ?_
  refine tri_true rfl rfl ?_
  refine tri_seq ?_
  refine tri_reg mixed hcx ?_ _ _
  refine bu stV rfl ?_
  refine st rfl rfl rfl tyV rfl ?_
  refine ⟨by kernel_rfl, ?_⟩
  refine nx (sl 2 rfl sn) (el 10 rfl (el 11 rfl en)) ?_
  refine tri_ret ?_
  repeat (first | refine pn_thenr ?_ | refine pn_blkr ?_)
  exact ret1 hcx rfl (rv_cell (c' := cx) (n := 0) rfl rfl tyV rfl) (v2_le z_F0 z_F0) en

theorem iv_OfInt_p {z : Int} {k : Nat} (hk : k ≤ 17592186044416) (hb : nbits z.natAbs ≤ 1099511627776) (hz : 0 < z) : Fn Try.prog 21 [T.Zi z k] [] [] [] (T.st [T.F (oPl (some (flw z.natAbs))), T.F (oPl (gz z.natAbs))]) := by
  refine fn_of Try.func21 rfl (by show 1 ≤ 6; decide) fun cx hcx => ?_
  refine tri_sub (sl 0 rfl sn) en ?_
  refine tri_seq ?_
  refine tri_reg mixed hcx ?_ _ _
  refine bx 10 rfl ?_
  refine nw 11 zeV ?_
  refine ⟨by kernel_rfl, ?_⟩
  refine nx (sl 1 rfl (sl 2 rfl sn)) (el 10 rfl (el 11 rfl en)) ?_
  refine tri_seq ?_
  refine tri_reg mixed hcx ?_ _ _
  refine ld rfl rfl tyZ rfl ?_
  refine ca rfl (h := rat_Of (by omega)) (hn := ?_)
  refine ca rfl (h := iv_around_p (z := z) hb hz) (hn := ?_)
  refine sts rfl rfl rfl tyV rfl ?_
  refine ⟨by kernel_rfl, ?_⟩
  refine nx (sl 2 rfl sn) (el 10 rfl (el 11 rfl en)) ?_
  refine tri_ret ?_
  repeat (first | refine pn_thenr ?_ | refine pn_blkr ?_)
  exact ret1 hcx rfl (rv_cell (c' := cx) (n := 0) rfl rfl tyV rfl) (.refl _) en

theorem iv_OfInt_m {z : Int} {k : Nat} (hk : k ≤ 17592186044416) (hb : nbits z.natAbs ≤ 1099511627776) (hz : z < 0) : Fn Try.prog 21 [T.Zi z k] [] [] [] (T.st [T.F (oPl (ong (gz z.natAbs))), T.F (oPl (ong (some (flw z.natAbs))))]) := by
  refine fn_of Try.func21 rfl (by show 1 ≤ 6; decide) fun cx hcx => ?_
  refine tri_sub (sl 0 rfl sn) en ?_
  refine tri_seq ?_
  refine tri_reg mixed hcx ?_ _ _
  refine bx 10 rfl ?_
  refine nw 11 zeV ?_
  refine ⟨by kernel_rfl, ?_⟩
  refine nx (sl 1 rfl (sl 2 rfl sn)) (el 10 rfl (el 11 rfl en)) ?_
  refine tri_seq ?_
  refine tri_reg mixed hcx ?_ _ _
  refine ld rfl rfl tyZ rfl ?_
  refine ca rfl (h := rat_Of (by omega)) (hn := ?_)
  refine ca rfl (h := iv_around_m (z := z) hb hz) (hn := ?_)
  refine sts rfl rfl rfl tyV rfl ?_
  refine ⟨by kernel_rfl, ?_⟩
  refine nx (sl 2 rfl sn) (el 10 rfl (el 11 rfl en)) ?_
  refine tri_ret ?_
  repeat (first | refine pn_thenr ?_ | refine pn_blkr ?_)
  exact ret1 hcx rfl (rv_cell (c' := cx) (n := 0) rfl rfl tyV rfl) (.refl _) en

theorem iv_OfInt_z {z : Int} {k : Nat} (hk : k ≤ 17592186044416) (hb : nbits z.natAbs ≤ 1099511627776) (hz : z = 0) : Fn Try.prog 21 [T.Zi z k] [] [] [] (T.st [T.F (some 0), T.F (some 0)]) := by
  refine fn_of Try.func21 rfl (by show 1 ≤ 6; decide) fun cx hcx => ?_
  refine tri_sub (sl 0 rfl sn) en ?_
  refine tri_seq ?_
  refine tri_reg mixed hcx ?_ _ _
  refine bx 10 rfl ?_
  refine nw 11 zeV ?_
  refine ⟨by kernel_rfl, ?_⟩
  refine nx (sl 1 rfl (sl 2 rfl sn)) (el 10 rfl (el 11 rfl en)) ?_
  refine tri_seq ?_
  refine tri_reg mixed hcx ?_ _ _
  refine ld rfl rfl tyZ rfl ?_
  refine ca rfl (h := rat_Of (by omega)) (hn := ?_)
  refine ca rfl (h := iv_around_z (z := z) hb hz) (hn := ?_)
  refine sts rfl rfl rfl tyV rfl ?_
  refine ⟨by kernel_rfl, ?_⟩
  refine nx (sl 2 rfl sn) (el 10 rfl (el 11 rfl en)) ?_
  refine tri_ret ?_
  repeat (first | refine pn_thenr ?_ | refine pn_blkr ?_)
  exact ret1 hcx rfl (rv_cell (c' := cx) (n := 0) rfl rfl tyV rfl) (.refl _) en
end Go.Proofs.Ytlmiadjogdfjkaa.V
