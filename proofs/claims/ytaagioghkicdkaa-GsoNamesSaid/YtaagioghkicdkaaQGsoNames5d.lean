/- Printed by a program of this session off the program's translation: what the functions answer, and that they do. -/
-- squeezed
import Derived.Test.YtaagioghkicdkaaQGsoNames0
import Derived.Test.YtaagioghkicdkaaQGsoNames3
import Derived.Test.YtaagioghkicdkaaQGsoNames4
namespace Go.Proofs.Ytaagioghkicdkaa.QGsoNames
open Go.RowKit Go.Proofs.YtaagioghkicdkaaW.PrintWords Go.Proofs.YtaagioghkicdkaaW.PrintLast Go.Proofs.YtaagioghkicdkaaW.PrintMore
attribute [local go_sem] max2_int min2_int max_two min_two max_three min_three max_four min_four   -- for this text's walks alone
set_option linter.unusedVariables false
set_option linter.unusedSimpArgs false

/-! ### gso_built: function 99 -/
mutual
def gso_built.l0 : Nat → List (List (S31)) → Int → Int → List (S31) → List (List (S31)) → Option ((List (S31)) × (List (List (S31))) × Bool)
 | 0, _, _, _, _, _ => none
 | k + 1, x0, x16, x17, xp0, xp1 => if x17 < x16 then (if 0 ≤ (wrap64 (x17 + 1)) then (if (wrap64 (x17 + 1) : Int).toNat ≤ 8796093022208 then (gso_built.l1 k x0 x17 (([] : List (S31))) 0 x16 x17 xp0 xp1) else (none)) else (none)) else (some (xp0, xp1, true))
def gso_built.l1 : Nat → List (List (S31)) → Int → List (S31) → Int → Int → Int → List (S31) → List (List (S31)) → Option ((List (S31)) × (List (List (S31))) × Bool)
 | 0, _, _, _, _, _, _, _, _ => none
 | k + 1, x0, x5, x6, x7, x16, x17, xp0, xp1 => if x7 ≤ x5 then (if 0 ≤ x5 then (if x5 < (x0.length : Int) then (if 0 ≤ x7 then (if x7 < (x0.length : Int) then ((mat_Dot.f k (rd_L5 x0 x5) (rd_L5 x0 x7)).bind fun bt173 => (gso_built.l2 k x0 x5 x6 x7 0 x16 x17 xp0 xp1 bt173.1 bt173.2.1)) else (none)) else (none)) else (none)) else (none)) else (if 0 ≤ x5 then (if x5 < (x6.length : Int) then ((zint_Sign.f ((rd_T31 x6 x5).f0) ((rd_T31 x6 x5).f1)).bind fun t234 => (if t234 ≤ 0 then (some (([] : List (S31)), ([] : List (List (S31))), false)) else (if xp0.length < 4398046511104 then (if x5 ≤ (x6.length : Int) then (if xp1.length < 5864062014805 then (gso_built.l0 k x0 x16 (wrap64 (x17 + 1)) (xp0 ++ [(⟨(rd_T31 x6 x5).f0, (rd_T31 x6 x5).f1⟩ : S31)]) (xp1 ++ [(x6.take (x5 : Int).toNat)])) else (none)) else (none)) else (none)))) else (none)) else (none))
def gso_built.l2 : Nat → List (List (S31)) → Int → List (S31) → Int → Int → Int → Int → List (S31) → List (List (S31)) → Bool → List Int → Option ((List (S31)) × (List (List (S31))) × Bool)
 | 0, _, _, _, _, _, _, _, _, _, _, _ => none
 | k + 1, x0, x5, x6, x7, x10, x16, x17, xp0, xp1, xp2, xp3 => if x10 < x7 then (if x7 < x5 then (if 0 ≤ x7 then (if x7 < (xp1.length : Int) then (if 0 ≤ (wrap64 (x10 + 1)) then (if (wrap64 (x10 + 1)) < (xp0.length : Int) then ((zint_Mul.f ((rd_T31 xp0 (wrap64 (x10 + 1))).f0) ((rd_T31 xp0 (wrap64 (x10 + 1))).f1) xp2 xp3).bind fun bt181 => (if 0 ≤ x10 then (if x10 < (x6.length : Int) then (if x10 < ((rd_L5 xp1 x7).length : Int) then ((zint_Mul.f ((rd_T31 x6 x10).f0) ((rd_T31 x6 x10).f1) ((rd_T31 (rd_L5 xp1 x7) x10).f0) ((rd_T31 (rd_L5 xp1 x7) x10).f1)).bind fun bt187 => ((zint_Sub.f bt181.1 bt181.2 bt187.1 bt187.2).bind fun bt191 => (if x10 < (xp0.length : Int) then ((zint_Floor.f bt191.1 bt191.2 ((rd_T31 xp0 x10).f0) ((rd_T31 xp0 x10).f1)).bind fun bt196 => (gso_built.l2 k x0 x5 x6 x7 (wrap64 (x10 + 1)) x16 x17 xp0 xp1 bt196.1 bt196.2.1)) else (none)))) else (none)) else (none)) else (none))) else (none)) else (none)) else (none)) else (none)) else (if 0 ≤ (wrap64 (x10 + 1)) then (if (wrap64 (x10 + 1)) < (xp0.length : Int) then ((zint_Mul.f ((rd_T31 xp0 (wrap64 (x10 + 1))).f0) ((rd_T31 xp0 (wrap64 (x10 + 1))).f1) xp2 xp3).bind fun bt206 => (if 0 ≤ x10 then (if x10 < (x6.length : Int) then ((zint_Mul.f ((rd_T31 x6 x10).f0) ((rd_T31 x6 x10).f1) ((rd_T31 x6 x10).f0) ((rd_T31 x6 x10).f1)).bind fun bt212 => ((zint_Sub.f bt206.1 bt206.2 bt212.1 bt212.2).bind fun bt216 => (if x10 < (xp0.length : Int) then ((zint_Floor.f bt216.1 bt216.2 ((rd_T31 xp0 x10).f0) ((rd_T31 xp0 x10).f1)).bind fun bt221 => (gso_built.l2 k x0 x5 x6 x7 (wrap64 (x10 + 1)) x16 x17 xp0 xp1 bt221.1 bt221.2.1)) else (none)))) else (none)) else (none))) else (none)) else (none))) else (if x6.length < 4398046511104 then (gso_built.l1 k x0 x5 (x6 ++ [(⟨xp2, xp3⟩ : S31)]) (wrap64 (x7 + 1)) x16 x17 xp0 xp1) else (none))
end
def gso_built.f (k : Nat) (l0 : List (List (S31))) : Option ((List (S31)) × (List (List (S31))) × Bool) := (zint_Of.f 1).bind fun bt160 => (gso_built.l0 k l0 (l0.length : Int) 0 (([(⟨bt160.1, bt160.2⟩ : S31)] : List (S31))) ([] : List (List (S31))))
theorem gso_built.mono_l : ∀ k, (∀ y0 y1 y2 y3 y4, LeO (gso_built.l0 k y0 y1 y2 y3 y4) (gso_built.l0 (k + 1) y0 y1 y2 y3 y4)) ∧ (∀ y0 y1 y2 y3 y4 y5 y6 y7, LeO (gso_built.l1 k y0 y1 y2 y3 y4 y5 y6 y7) (gso_built.l1 (k + 1) y0 y1 y2 y3 y4 y5 y6 y7)) ∧ (∀ y0 y1 y2 y3 y4 y5 y6 y7 y8 y9 y10, LeO (gso_built.l2 k y0 y1 y2 y3 y4 y5 y6 y7 y8 y9 y10) (gso_built.l2 (k + 1) y0 y1 y2 y3 y4 y5 y6 y7 y8 y9 y10))
 | 0 => ⟨fun _ _ _ _ _ r h => by simp [gso_built.l0] at h, fun _ _ _ _ _ _ _ _ r h => by simp [gso_built.l1] at h, fun _ _ _ _ _ _ _ _ _ _ _ r h => by simp [gso_built.l2] at h⟩
 | k + 1 => by
  obtain ⟨ih0, ih1, ih2⟩ := gso_built.mono_l k; refine ⟨?_, ?_, ?_⟩; ·
   intro y0 y1 y2 y3 y4; unfold gso_built.l0
   repeat' first
   | (with_reducible exact ih0 _ _ _ _ _)
   | (with_reducible exact ih1 _ _ _ _ _ _ _ _)
   | (with_reducible exact ih2 _ _ _ _ _ _ _ _ _ _ _)
   | (with_reducible exact mat_Dot.mono _ _ _)
   | (with_reducible exact LeO.refl _)
   | (with_reducible exact LeO.none _)
   | (with_reducible refine LeO.ite ?_ ?_)
   | (with_reducible refine LeO.bind ?_ (fun _ => ?_))
   | exact ih0 _ _ _ _ _
   | exact ih1 _ _ _ _ _ _ _ _
   | exact ih2 _ _ _ _ _ _ _ _ _ _ _
   | exact mat_Dot.mono _ _ _
   | exact LeO.none _
   | refine LeO.ite ?_ ?_
   | refine LeO.bind ?_ (fun _ => ?_)
  ·
   intro y0 y1 y2 y3 y4 y5 y6 y7; unfold gso_built.l1
   repeat' first
   | (with_reducible exact ih0 _ _ _ _ _)
   | (with_reducible exact ih1 _ _ _ _ _ _ _ _)
   | (with_reducible exact ih2 _ _ _ _ _ _ _ _ _ _ _)
   | (with_reducible exact mat_Dot.mono _ _ _)
   | (with_reducible exact LeO.refl _)
   | (with_reducible exact LeO.none _)
   | (with_reducible refine LeO.ite ?_ ?_)
   | (with_reducible refine LeO.bind ?_ (fun _ => ?_))
   | exact ih0 _ _ _ _ _
   | exact ih1 _ _ _ _ _ _ _ _
   | exact ih2 _ _ _ _ _ _ _ _ _ _ _
   | exact mat_Dot.mono _ _ _
   | exact LeO.none _
   | refine LeO.ite ?_ ?_
   | refine LeO.bind ?_ (fun _ => ?_)
  ·
   intro y0 y1 y2 y3 y4 y5 y6 y7 y8 y9 y10; unfold gso_built.l2
   repeat' first
   | (with_reducible exact ih0 _ _ _ _ _)
   | (with_reducible exact ih1 _ _ _ _ _ _ _ _)
   | (with_reducible exact ih2 _ _ _ _ _ _ _ _ _ _ _)
   | (with_reducible exact mat_Dot.mono _ _ _)
   | (with_reducible exact LeO.refl _)
   | (with_reducible exact LeO.none _)
   | (with_reducible refine LeO.ite ?_ ?_)
   | (with_reducible refine LeO.bind ?_ (fun _ => ?_))
   | exact ih0 _ _ _ _ _
   | exact ih1 _ _ _ _ _ _ _ _
   | exact ih2 _ _ _ _ _ _ _ _ _ _ _
   | exact mat_Dot.mono _ _ _
   | exact LeO.none _
   | refine LeO.ite ?_ ?_
   | refine LeO.bind ?_ (fun _ => ?_)
theorem gso_built.mono : ∀ a0 k, LeO (gso_built.f k a0) (gso_built.f (k + 1) a0) := by
 intro a0 k; obtain ⟨ih0, ih1, ih2⟩ := gso_built.mono_l k; unfold gso_built.f
 repeat' first
   | (with_reducible exact ih0 _ _ _ _ _)
   | (with_reducible exact ih1 _ _ _ _ _ _ _ _)
   | (with_reducible exact ih2 _ _ _ _ _ _ _ _ _ _ _)
   | (with_reducible exact mat_Dot.mono _ _ _)
   | (with_reducible exact LeO.refl _)
   | (with_reducible exact LeO.none _)
   | (with_reducible refine LeO.ite ?_ ?_)
   | (with_reducible refine LeO.bind ?_ (fun _ => ?_))
   | exact ih0 _ _ _ _ _
   | exact ih1 _ _ _ _ _ _ _ _
   | exact ih2 _ _ _ _ _ _ _ _ _ _ _
   | exact mat_Dot.mono _ _ _
   | exact LeO.none _
   | refine LeO.ite ?_ ?_
   | refine LeO.bind ?_ (fun _ => ?_)
def gso_built.T9 : Bool × List (List Nat × List Nat) := (true, [([], []), ([], []), ([0, 1], [0, 1]), ([2], [2]), ([], []), ([], []), ([4, 5], [4, 5]), ([6], [6]), ([3, 7], [3, 7]), ([8], [8]), ([9], [9]), ([9], [9]), ([], []), ([12, 10, 8, 0, 1, 2, 3, 4, 5, 6, 7, 8, 9, 10, 12], [10, 12]), ([11, 13, 0, 1, 2, 3, 4, 5, 6, 7, 8, 9, 10, 11, 12, 13], [11])])
def gso_built.B9 : List Nat := [0, 0, 3, 7, 0, 0, 48, 112, 255, 511, 1023, 1023, 0, 6143, 16383]
theorem gso_built.tab9 : rtab .any (opsOf Try.f99 9) = gso_built.T9 := by kernel_rfl
theorem gso_built.bits9 : waitsOk gso_built.T9.2 gso_built.B9 = true := by kernel_rfl
def gso_built.T16 : Bool × List (List Nat × List Nat) := (true, [([], []), ([0], [0]), ([], []), ([2], [2]), ([1, 3], [1, 3]), ([4], [4]), ([], []), ([5, 6], [5, 6]), ([], []), ([], []), ([8, 9], [8, 9]), ([10], [10]), ([], []), ([], []), ([12, 13], [12, 13]), ([14], [14]), ([11, 15, 7], [11, 15]), ([7, 16, 16], [7, 16]), ([17, 17, 0, 1, 2, 3, 4, 5, 6, 7, 8, 9, 10, 11, 12, 13, 14, 15, 16, 17], [17])])
def gso_built.B16 : List Nat := [0, 1, 0, 4, 15, 31, 0, 127, 0, 0, 768, 1792, 0, 0, 12288, 28672, 65535, 131071, 262143]
theorem gso_built.tab16 : rtab .any (opsOf Try.f99 16) = gso_built.T16 := by kernel_rfl
theorem gso_built.bits16 : waitsOk gso_built.T16.2 gso_built.B16 = true := by kernel_rfl
def gso_built.T17 : Bool × List (List Nat × List Nat) := (true, [([], []), ([], []), ([1], [1]), ([], []), ([2, 3], [2, 3]), ([4], [4]), ([0, 5], [0, 5]), ([6], [6]), ([7], [7]), ([7], [7]), ([7], [7]), ([8, 6, 0, 1, 2, 3, 4, 5, 6, 7, 8], [8])])
def gso_built.B17 : List Nat := [0, 0, 2, 0, 14, 30, 63, 127, 255, 255, 255, 511]
theorem gso_built.tab17 : rtab .any (opsOf Try.f99 17) = gso_built.T17 := by kernel_rfl
theorem gso_built.bits17 : waitsOk gso_built.T17.2 gso_built.B17 = true := by kernel_rfl
def gso_built.T21 : Bool × List (List Nat × List Nat) := (true, [([], []), ([0], [0]), ([], []), ([], []), ([2, 3], [2, 3]), ([4], [4]), ([5], [5]), ([1, 6], [1, 6]), ([0, 1, 2, 3, 4, 5, 6, 7], []), ([8, 7, 7, 0, 1, 2, 3, 4, 5, 6, 7], [7, 8])])
def gso_built.B21 : List Nat := [0, 1, 0, 0, 12, 28, 60, 127, 255, 511]
theorem gso_built.tab21 : rtab .any (opsOf Try.f99 21) = gso_built.T21 := by kernel_rfl
theorem gso_built.bits21 : waitsOk gso_built.T21.2 gso_built.B21 = true := by kernel_rfl
def gso_built.T22 : Bool × List (List Nat × List Nat) := (true, [([], []), ([0], [0]), ([], []), ([], []), ([], []), ([2, 3, 4], [2, 3, 4]), ([5], [5]), ([1, 6], [1, 6]), ([0, 1, 2, 3, 4, 5, 6, 7], []), ([8, 7, 7, 0, 1, 2, 3, 4, 5, 6, 7], [7, 8])])
def gso_built.B22 : List Nat := [0, 1, 0, 0, 0, 28, 60, 127, 255, 511]
theorem gso_built.tab22 : rtab .any (opsOf Try.f99 22) = gso_built.T22 := by kernel_rfl
theorem gso_built.bits22 : waitsOk gso_built.T22.2 gso_built.B22 = true := by kernel_rfl
end Go.Proofs.Ytaagioghkicdkaa.QGsoNames
