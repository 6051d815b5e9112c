/- Sums and products of fractions. -/
import Derived.ChangeArms
import Ieee.Arith
import GoSem.Core.Float
import GoSem.Op.Unary
import Derived.Laws.FloatArith
import Derived.Laws.Externs
import Derived.RangeFuncRecord
import Derived.Test.YtekghdfbhbhigaaGreatM04
set_option linter.unusedVariables false
set_option linter.unusedSimpArgs false
set_option maxRecDepth 100000
namespace Go.Proofs.YtekghdfbhbhigaaGreat.V
open Go.RowKit Mt Nml
section
variable {P : Program} {x : Code} {Q : Exit → Act → World → Prop} {ctx : Ctx} {n : Nat} {g : List (Nat × T)} {E : List (Nat × Option Ent)}
/-- A box that is written to no more: its pointer tells a place that stands. -/
theorem tri_fzb {et : TypeId} {l : List T} (t e : Nat) (ht : lk g t = some (T.p e 0)) (hE : lkE E e = some (Ent.box et l)) (hl : szs l ≠ 0) (h : Tri P x Q ctx n ((t, T.fp (T.st l)) :: g) ((e, none) :: E)) : Tri P x Q ctx n g E := fun a w hS => h a w (by
  obtain ⟨β, u, F, h1, h2, h3, h4, h5, h6, h7⟩ := hS
  obtain ⟨b, cs, k1, k2, k3, k4⟩ := h4.hold e _ hE
  have hs := h5.sub
  have hd : ∀ k, F e k → Dead u k := fun k hk => (h4.dead e _ k hE hk).1
  have hup := solid_up hs hd
  have hlk : ∀ f X, lkE ((e, none) :: E) f = some X → f ≠ e ∧ lkE E f = some X := fun f X hX => by
    unfold lkE at hX
    rw [lk_cons] at hX
    split at hX
    · cases hX
    · rename_i hne; exact ⟨Ne.symm hne, hX⟩
  refine ⟨β, solid u w (F e), F, h1, h2, fun t' X hX => ?_, ⟨fun f X hX => ?_, fun f X k hX hk => ?_, fun f f' X Y k hX hY hne hk hk' => ?_⟩, ⟨h5.os, h5.tape, h5.output, h5.size, h5.block, h5.old.trans hup, solid_sub hs, fun k hk hc hdk => solid_dead hs (fun hk' => ?_) (h5.dead k hk hc hdk)⟩, fun f X k hX hk => ?_, h7⟩
  · rw [lk_cons] at hX
    split at hX
    · rename_i e1
      subst e1
      cases hX
      obtain ⟨v, q1, b', q2, q3⟩ := h3 t _ ht
      have hb : b' = b := by rw [k1] at q2; cases q2; rfl
      subst hb
      refine ⟨v, q1, ⟨b', 0, none⟩, .agg cs.toArray, q3, hl, ⟨cs, rfl, k4.mono hup⟩, fun j y hy => ?_⟩
      rw [add_none, Nat.zero_add, solid_in hs ((k2 b').2 rfl), cell_of_row w b' j _ et (0, 0) k3]
      simpa [Value.cells] using hy
    · obtain ⟨v, q1, q2⟩ := h3 t' X hX
      exact ⟨v, q1, X.mono hup q2⟩
  · obtain ⟨hne, hX'⟩ := hlk f X hX
    exact X.mono hup (h4.hold f X hX')
  · obtain ⟨hne, hX'⟩ := hlk f X hX
    exact ⟨solid_dead hs (fun hk' => h4.apart f e X _ k hX' hE hne hk hk') (h4.dead f X k hX' hk).1, (h4.dead f X k hX' hk).2⟩
  · exact h4.apart f f' X Y k (hlk f X hX).2 (hlk f' Y hY).2 hne hk hk'
  · rcases h6 e _ k hE hk' with h8 | h8
    · exact hc h8
    · omega
  · exact h6 f X k (hlk f X hX).2 hk)
end
instance (k : Nat) (q : Rat) : Sp ((cQ k).X q) [T.Z q.num k, T.Z (q.den : Int) k] := inferInstanceAs (Sp (T.Q q k) _)
/-- A function value whose captured things hang on no memory of one's own. -/
def T.clo (f : FuncId) (Cs : List T) (h : Cs.flatMap (·.ns) = []) : T := ⟨[], 1, false, (T.fn f Cs).rep, (T.fn f Cs).shp, (T.fn f Cs).mono, fun _ hr => (T.fn f Cs).ext (fun e he => by rw [show (T.fn f Cs).ns = [] from h] at he; cases he) hr⟩
theorem clo_le {f : FuncId} {Cs : List T} {h : Cs.flatMap (·.ns) = []} : (T.fn f Cs).le (T.clo f Cs h) := fun _ _ _ k => k
theorem clo_ge {f : FuncId} {Cs : List T} {h : Cs.flatMap (·.ns) = []} : (T.clo f Cs h).le (T.fn f Cs) := fun _ _ _ k => k
theorem q_eq {q q' : Rat} {k k' : Nat} (h : q = q') (hk : k ≤ k') : (T.Q q k).le (T.Q q' k') := by subst h; exact st_le (l := [T.Z q.num k, T.Z (q.den : Int) k]) (l' := [T.Z q.num k', T.Z (q.den : Int) k']) ⟨z_mono hk, z_mono hk, trivial⟩
theorem den_ne (q : Rat) : ((q.den : Int)) ≠ 0 := by have := q.den_pos; omega
end Go.Proofs.YtekghdfbhbhigaaGreat.V
/- The document: sums and products of fractions. -/
set_option linter.unusedVariables false
set_option linter.unusedSimpArgs false
set_option maxRecDepth 100000
namespace Go.Proofs.YtekghdfbhbhigaaGreat.V
open Go.RowKit Mt Nml
end Go.Proofs.YtekghdfbhbhigaaGreat.V
/- The squared length of a sum of rows, by the data: what is reckoned, and how large its parts are. -/
set_option linter.unusedVariables false
namespace Go.Proofs.YtekghdfbhbhigaaGreat.V
open Mt Nml
theorem rat_ne {z : Int} (h : z ≠ 0) : (z : Rat) ≠ 0 := fun e => h (Rat.intCast_inj.1 (by rw [e]; rfl))
end Go.Proofs.YtekghdfbhbhigaaGreat.V
/- The squared length of a sum of rows. -/
set_option linter.unusedVariables false
set_option linter.unusedSimpArgs false
set_option maxRecDepth 100000
namespace Go.Proofs.YtekghdfbhbhigaaGreat.V
open Go.RowKit Mt Nml
theorem cells_zl {k : Nat} {u : World} : ∀ {l : List Int} {cs : List Value}, Cells B0 u (l.map (cZi k).X) cs → ∀ z ∈ l, zl z ≤ k
  | [], _, _, z, h => by cases h
  | a :: r, cs, ⟨v, rest, _, ⟨i, ⟨k1, k2, k3⟩, _⟩, _, h2⟩, z, h => by
    rcases List.mem_cons.1 h with rfl | h
    · obtain ⟨M, hM⟩ := Int.eq_ofNat_of_zero_le (val_nonneg k1)
      rw [k2, hM]
      exact z_bd (s := i.1) k1 hM k3
    · exact cells_zl h2 z h
theorem zl_zero : zl 0 = 0 := by unfold zl; exact lim_zero
theorem getD_zl {l : List Int} {k : Nat} (h : ∀ z ∈ l, zl z ≤ k) (j : Nat) : zl (l.getD j 0) ≤ k := by
  rw [List.getD_eq_getElem?_getD]
  cases hj : l[j]? with
  | none => rw [show (none : Option Int).getD 0 = 0 from rfl, zl_zero]; omega
  | some z => exact h z (List.mem_of_getElem? hj)
theorem l_zl {k : Nat} {β : Env} {u : World} {l : List Int} {v : Value} (h : (T.l (cZi k) l).rep β u v) : ∀ z ∈ l, zl z ≤ k := fun z hz => by
  obtain ⟨A, n, q, _, h1, _, _, h4⟩ := h
  have hp : 0 < n := by rw [← h1]; exact List.length_pos_of_mem hz
  obtain ⟨ad, _, xs, h5, _⟩ := h4 hp
  exact cells_zl h5 z hz
theorem cells_ll {k : Nat} {u : World} : ∀ {l : List (List Int)} {cs : List Value}, Cells B0 u (l.map (cL (cZi k)).X) cs → ∀ r ∈ l, ∀ z ∈ r, zl z ≤ k
  | [], _, _, r, h => by cases h
  | a :: s, cs, ⟨v, rest, _, h1, _, h2⟩, r, h => by
    rcases List.mem_cons.1 h with rfl | h
    · exact l_zl (k := k) h1
    · exact cells_ll h2 r h
theorem ll_zl {k : Nat} {β : Env} {u : World} {l : List (List Int)} {v : Value} (h : (T.l (cL (cZi k)) l).rep β u v) (i j : Nat) : zl ((l.getD j []).getD i 0) ≤ k := by
  rw [List.getD_eq_getElem?_getD (l := l)]
  cases hj : l[j]? with
  | none => rw [show ((none : Option (List Int)).getD []).getD i 0 = 0 from rfl, zl_zero]; omega
  | some r =>
    obtain ⟨A, n, q, _, h1, _, _, h4⟩ := h
    have hr := List.mem_of_getElem? hj
    have hp : 0 < n := by rw [← h1]; exact List.length_pos_of_mem hr
    obtain ⟨ad, _, xs, h5, _⟩ := h4 hp
    exact getD_zl (cells_ll h5 r hr) i
section
variable {P : Program} {x : Code} {Q : Exit → Act → World → Prop} {ctx : Ctx} {n : Nat} {g : List (Nat × T)} {E : List (Nat × Option Ent)}
theorem tri_lz (t : Nat) {l : List Int} {k : Nat} (ht : lk g t = some (T.l (cZi k) l)) (h : (∀ j, zl (l.getD j 0) ≤ k) → Tri P x Q ctx n g E) : Tri P x Q ctx n g E := fun a w hS => by
  have hS' := hS
  obtain ⟨β, u, F, h1, h2, h3, _⟩ := hS'
  obtain ⟨v, _, hr⟩ := h3 t _ ht
  exact h (getD_zl (l_zl hr)) a w hS
end
theorem q_qb {q q' : Rat} {k k' : Nat} (e : q = q') (h : QB q' k') : (T.Q q k).le (T.Q q' k') := by
  subst e
  exact st_le (l := [T.Z q.num k, T.Z (q.den : Int) k]) (l' := [T.Z q.num k', T.Z (q.den : Int) k']) ⟨z_as h.1, z_as h.2, trivial⟩
theorem QB.mono {q : Rat} {k k' : Nat} (h : QB q k) (hk : k ≤ k') : QB q k' := ⟨Nat.le_trans h.1 hk, Nat.le_trans h.2 hk⟩
end Go.Proofs.YtekghdfbhbhigaaGreat.V
/- The law of the squared lengths. -/
set_option linter.unusedVariables false
set_option linter.unusedSimpArgs false
set_option maxRecDepth 100000
namespace Go.Proofs.YtekghdfbhbhigaaGreat.V
open Go.RowKit Mt Nml
end Go.Proofs.YtekghdfbhbhigaaGreat.V
/- What is read of data of rows, with the number of rows bounded by what is read. -/
set_option linter.unusedVariables false
set_option linter.unusedSimpArgs false
namespace Go.Proofs.YtekghdfbhbhigaaGreat.V
open Go.Deep Go.ChangeShapes Go.WideShapes Go.ChangeAt Go.RowKit Mt Nml

section
variable {H : Type} {enc : TypeId × Value → H} {W : World} {base : Nat} {spare : Nat → Bool} {held : Bool} {fuel : Nat} {cs : List Value} {x : DataW H × List MemPlace}
end
end Go.Proofs.YtekghdfbhbhigaaGreat.V
/- What is read of rows, with the lengths of the rows bounded by what is read. -/
set_option linter.unusedVariables false
set_option linter.unusedSimpArgs false
namespace Go.Proofs.YtekghdfbhbhigaaGreat.V
open Go.Deep Go.ChangeShapes Go.WideShapes Go.ChangeAt Go.RowKit Mt Nml
section
variable {H : Type} {enc : TypeId × Value → H} {W : World} {base : Nat} {spare : Nat → Bool} {held : Bool} {fuel : Nat} {cs : List Value} {x : DataW H × List MemPlace}
end
end Go.Proofs.YtekghdfbhbhigaaGreat.V
/- What is read of the arguments of a law: fractions, lists of them. -/
set_option linter.unusedVariables false
set_option linter.unusedSimpArgs false
namespace Go.Proofs.YtekghdfbhbhigaaGreat.V
open Go.Deep Go.ChangeShapes Go.WideShapes Go.ChangeAt Go.RowKit Mt Nml
section
variable {P : Program} {H : Type} {enc : TypeId × Value → H} {W : World} {base : Nat} {spare : Nat → Bool} {held : Bool} {fuel : Nat} {cs : List Value} {x : DataW H × List MemPlace}
set_option maxRecDepth 100000 in
theorem read_Frac {k : Nat} (h : DataW.trod enc Tryz.prog W base spare held fuel 34 cs = some x) (hk : Rows.uptoBulk x.1 ≤ k) : ∃ a b, (T.st [T.Zi a k, T.Zi b k]).rep B0 W (.agg cs.toArray) := by
  obtain ⟨y0, y1, m, rfl, hl, h0, h1⟩ := trod_struct2 Tryz.underlying34 h
  have hl2 : cs.length = 4 := hl.trans (by kernel_rfl)
  have hk' : Rows.uptoBulk y0.1 + (Rows.uptoBulk y1.1 + 0) + 1 ≤ k := hk
  match cs, hl2 with
  | [c0, c1, c2, c3], _ =>
    have k0 : (([c0, c1, c2, c3] : List Value).drop 0).take (Tryz.prog.cellsOf 32) = [c0, c1] := by rw [show Tryz.prog.cellsOf 32 = 2 from by kernel_rfl]; rfl
    have k1 : (([c0, c1, c2, c3] : List Value).drop 2).take (Tryz.prog.cellsOf 32) = [c2, c3] := by rw [show Tryz.prog.cellsOf 32 = 2 from by kernel_rfl]; rfl
    rw [k0] at h0
    rw [k1] at h1
    obtain ⟨a, ha⟩ := read_Zi (k := k) h0 (by omega)
    obtain ⟨b, hb⟩ := read_Zi (k := k) h1 (by omega)
    exact ⟨a, b, [c0, c1, c2, c3], rfl, .agg #[c0, c1], [c2, c3], by show (2 : Nat) ≠ 0; omega, ha, rfl, .agg #[c2, c3], [], by show (2 : Nat) ≠ 0; omega, hb, rfl, rfl⟩
theorem read_fracs {k : Nat} (h : DataW.trod enc Tryz.prog W base spare held fuel 37 cs = some x) (hk : Rows.uptoBulk x.1 ≤ k) : ∃ v l, cs = [v] ∧ (T.l (cQi k) l).rep B0 W v ∧ l.length ≤ Rows.uptoBulk x.1 := by
  rcases open_slice Tryz.underlying37 h with ⟨rfl, rfl⟩ | ⟨a, len, cap, m, n, D, Pl, rfl, hb, hl, hm, hmm, rfl, hx⟩
  · exact ⟨_, [], rfl, nil_l _ _ _ _ rfl, Nat.zero_le _⟩
  · have hml : len ≤ m := by rw [hmm]; split <;> omega
    have hbl : len ≤ Rows.uptoBulkAll ((List.range len).map D) := by have := bulk_all (l := (List.range len).map D); simpa using this
    have hbk : Rows.uptoBulkAll ((List.range len).map D) + Rows.uptoBulkAll ((List.range (m - len)).map fun j => D (len + j)) + 1 ≤ k := hk
    obtain ⟨l, h1, xs, h2, h3, h4⟩ := read_list (cQi k) (W := W) (base := base) (a := a) (len := len) (fun i hi => by
      obtain ⟨cs', k1, k2⟩ := hx i (by omega)
      rw [show Tryz.prog.cellsOf 34 = 4 from by kernel_rfl] at k1
      obtain ⟨p, q, hz⟩ := read_Frac (k := k) k2 (by have := bulk_mem (l := (List.range len).map D) (List.mem_map_of_mem (List.mem_range.2 hi)); show Rows.uptoBulk (D i) ≤ k; omega)
      exact ⟨(p, q), cs', _, k1, rfl, hz⟩)
    refine ⟨_, l, rfl, ⟨some a, len, cap, rfl, h1, hl, by unfold maxLen at hm; omega, fun hp => ⟨a, rfl, xs, h2, h3⟩⟩, ?_⟩
    show _ ≤ Rows.uptoBulkAll ((List.range len).map D) + Rows.uptoBulkAll ((List.range (m - len)).map fun j => D (len + j)) + 1
    omega
end
end Go.Proofs.YtekghdfbhbhigaaGreat.V
/- How the model's orders of two floats read off their bits. Plain mathematics of words; no condition but that no word is a NaN where said. -/
namespace Go.Proofs.YtekghdfbhbhigaaGreat.Fl
open Ieee

def rung (b : Nat) : Nat := b % 9223372036854775808
def sgn (b : Nat) : Bool := b / 9223372036854775808 % 2 == 1
def mag (r : Nat) : Nat := if r < 4503599627370496 then r else (4503599627370496 + r % 4503599627370496) * 2 ^ (r / 4503599627370496 - 1)
def INF : Nat := 9218868437227405312
def key (b : Nat) : Int := if sgn b then -(rung b : Int) else rung b
def isN (b : Nat) : Bool := decide (INF < rung b)

theorem d_sw : double.signWeight = 9223372036854775808 := by decide
theorem d_bin : double.binade = 4503599627370496 := by decide
theorem d_inf : double.infRung = 9218868437227405312 := by decide
theorem d_least : double.leastPlace = -1074 := by decide

theorem mag_step (r : Nat) : mag r < mag (r + 1) := by
  unfold mag
  by_cases h1 : r + 1 < 4503599627370496
  · rw [if_pos h1, if_pos (by omega)]; omega
  by_cases h2 : r < 4503599627370496
  · have e : r = 4503599627370495 := by omega
    subst e
    decide
  rw [if_neg h2, if_neg h1]
  obtain ⟨q, hq⟩ : ∃ q, r / 4503599627370496 = q + 1 := ⟨r / 4503599627370496 - 1, by omega⟩
  obtain ⟨t, ht⟩ : ∃ t, r % 4503599627370496 = t := ⟨_, rfl⟩
  have htl : t < 4503599627370496 := by omega
  by_cases h3 : t + 1 < 4503599627370496
  · have e1 : (r + 1) / 4503599627370496 = q + 1 := by omega
    have e2 : (r + 1) % 4503599627370496 = t + 1 := by omega
    rw [hq, ht, e1, e2]
    exact Nat.mul_lt_mul_of_pos_right (by omega) (Nat.two_pow_pos _)
  · have e1 : (r + 1) / 4503599627370496 = q + 2 := by omega
    have e2 : (r + 1) % 4503599627370496 = 0 := by omega
    rw [hq, ht, e1, e2, show q + 2 - 1 = (q + 1 - 1) + 1 from by omega, Nat.pow_succ]
    have := Nat.two_pow_pos (q + 1 - 1)
    generalize 2 ^ (q + 1 - 1) = z at this ⊢
    have e : t = 4503599627370495 := by omega
    subst e
    omega

theorem mag_lt {r s : Nat} (h : r < s) : mag r < mag s := by
  induction s with
  | zero => omega
  | succ s ih =>
    rcases Nat.lt_or_ge r s with h1 | h1
    · exact Nat.lt_trans (ih h1) (mag_step s)
    · have : r = s := by omega
      subst this; exact mag_step r

theorem mag_iff {r s : Nat} : mag r < mag s ↔ r < s := by
  refine ⟨fun h => ?_, mag_lt⟩
  rcases Nat.lt_trichotomy r s with h1 | h1 | h1
  · exact h1
  · subst h1; omega
  · have := mag_lt h1; omega

theorem mag_pos {r : Nat} : 0 < mag r ↔ 0 < r := by
  have := @mag_iff 0 r
  rwa [show mag 0 = 0 from rfl] at this

theorem read_num {b : Nat} (h : rung b < INF) : ∃ m e : Nat, double.read b = .number (sgn b) m (-1074 + (e : Int)) ∧ m * 2 ^ e = mag (rung b) := by
  unfold INF at h
  unfold Format.read
  rw [d_sw, d_bin, d_inf, d_least]
  show ∃ m e : Nat, (if rung b < 4503599627370496 then Datum.number (sgn b) (rung b) (-1074) else if rung b < 9218868437227405312 then .number (sgn b) (4503599627370496 + rung b % 4503599627370496) (-1074 + (rung b / 4503599627370496 - 1 : Nat)) else _) = _ ∧ _
  unfold mag
  by_cases h1 : rung b < 4503599627370496
  · rw [if_pos h1, if_pos h1]
    exact ⟨rung b, 0, by simp, by simp⟩
  · rw [if_neg h1, if_pos h, if_neg h1]
    exact ⟨_, _, rfl, rfl⟩

theorem read_inf {b : Nat} (h : rung b = INF) : double.read b = .infinity (sgn b) := by
  unfold INF at h
  unfold Format.read
  rw [d_sw, d_bin, d_inf, d_least]
  show (if rung b < 4503599627370496 then Datum.number (sgn b) (rung b) (-1074) else if rung b < 9218868437227405312 then .number (sgn b) (4503599627370496 + rung b % 4503599627370496) (-1074 + (rung b / 4503599627370496 - 1 : Nat)) else if rung b = 9218868437227405312 then .infinity (sgn b) else _) = _
  rw [if_neg (by omega), if_neg (by omega), if_pos h]

theorem read_nan {b : Nat} (h : INF < rung b) : ∃ s t, double.read b = .nan s t := by
  unfold INF at h
  unfold Format.read
  rw [d_sw, d_bin, d_inf, d_least]
  show ∃ s t, (if rung b < 4503599627370496 then Datum.number (sgn b) (rung b) (-1074) else if rung b < 9218868437227405312 then .number (sgn b) (4503599627370496 + rung b % 4503599627370496) (-1074 + (rung b / 4503599627370496 - 1 : Nat)) else if rung b = 9218868437227405312 then .infinity (sgn b) else .nan (sgn b) (rung b - 9218868437227405312)) = .nan s t
  rw [if_neg (by omega), if_neg (by omega), if_neg (by omega)]
  exact ⟨_, _, rfl⟩

theorem cmp_eq {a b c d : Int} (h1 : a < b ↔ c < d) (h2 : b < a ↔ d < c) : compare a b = compare c d := by
  simp only [compare, compareOfLessAndEq]
  by_cases x : a < b
  · rw [if_pos x, if_pos (h1.1 x)]
  · rw [if_neg x, if_neg (fun y => x (h1.2 y))]
    by_cases z : b < a
    · rw [if_neg (by omega), if_neg (by have := h2.1 z; omega)]
    · rw [if_pos (by omega), if_pos (by have := fun y => z (h2.2 y); have := fun y => x (h1.2 y); omega)]

theorem cmp_lt {a b : Int} (h : a < b) : compare a b = .lt := by
  simp only [compare, compareOfLessAndEq]; rw [if_pos h]
theorem cmp_gt {a b : Int} (h : b < a) : compare a b = .gt := by
  simp only [compare, compareOfLessAndEq]; rw [if_neg (by omega), if_neg (by omega)]

theorem signed_cmp (s t : Bool) (a b c d : Nat) (h1 : a < b ↔ c < d) (h2 : b < a ↔ d < c) (p1 : 0 < a ↔ 0 < c) (p2 : 0 < b ↔ 0 < d) :
    compare (if s then -(a : Int) else a) (if t then -(b : Int) else b) = compare (if s then -(c : Int) else c) (if t then -(d : Int) else d) := by
  refine cmp_eq ?_ ?_ <;> cases s <;> cases t <;> simp <;> omega

theorem order_num {x y : Nat} (hx : rung x < INF) (hy : rung y < INF) : double.order x y = some (compare (key x) (key y)) := by
  obtain ⟨m, e, h1, h2⟩ := read_num hx
  obtain ⟨n, f, h3, h4⟩ := read_num hy
  unfold Format.order
  rw [h1, h3]
  show some (compare (signed (sgn x) m (-1074 + (e : Int) - min (-1074 + (e : Int)) (-1074 + (f : Int))).toNat) (signed (sgn y) n (-1074 + (f : Int) - min (-1074 + (e : Int)) (-1074 + (f : Int))).toNat)) = _
  have e1 : (-1074 + (e : Int) - min (-1074 + (e : Int)) (-1074 + (f : Int))).toNat = e - min e f := by omega
  have e2 : (-1074 + (f : Int) - min (-1074 + (e : Int)) (-1074 + (f : Int))).toNat = f - min e f := by omega
  rw [e1, e2]
  unfold signed key
  congr 1
  have k1 : (m <<< (e - min e f)) * 2 ^ min e f = mag (rung x) := by
    rw [Nat.shiftLeft_eq, Nat.mul_assoc, ← Nat.pow_add, show e - min e f + min e f = e from by omega, h2]
  have k2 : (n <<< (f - min e f)) * 2 ^ min e f = mag (rung y) := by
    rw [Nat.shiftLeft_eq, Nat.mul_assoc, ← Nat.pow_add, show f - min e f + min e f = f from by omega, h4]
  have kp := Nat.two_pow_pos (min e f)
  refine signed_cmp _ _ _ _ _ _ ?_ ?_ ?_ ?_
  · rw [← @mag_iff (rung x), ← k1, ← k2]; exact (Nat.mul_lt_mul_right kp).symm
  · rw [← @mag_iff (rung y), ← k1, ← k2]; exact (Nat.mul_lt_mul_right kp).symm
  · rw [← @mag_pos (rung x), ← k1]; exact ⟨fun h => Nat.mul_pos h kp, fun h => Nat.pos_of_mul_pos_right h⟩
  · rw [← @mag_pos (rung y), ← k2]; exact ⟨fun h => Nat.mul_pos h kp, fun h => Nat.pos_of_mul_pos_right h⟩

/-- The order of two words that are no NaNs is that of their keys. -/
theorem order_key {x y : Nat} (hx : rung x ≤ INF) (hy : rung y ≤ INF) : double.order x y = some (compare (key x) (key y)) := by
  rcases Nat.lt_or_eq_of_le hx with hx | hx <;> rcases Nat.lt_or_eq_of_le hy with hy | hy
  · exact order_num hx hy
  · obtain ⟨m, e, h1, _⟩ := read_num hx
    unfold Format.order
    rw [h1, read_inf hy]
    show some (if sgn y then Ordering.gt else Ordering.lt) = _
    unfold key
    rw [hy]
    congr 1
    unfold INF at *
    cases sgn y <;> cases sgn x <;> first | exact (cmp_lt (by simp; omega)).symm | exact (cmp_gt (by simp; omega)).symm
  · obtain ⟨m, e, h1, _⟩ := read_num hy
    unfold Format.order
    rw [h1, read_inf hx]
    show some (if sgn x then Ordering.lt else Ordering.gt) = _
    unfold key
    rw [hx]
    congr 1
    unfold INF at *
    cases sgn y <;> cases sgn x <;> first | exact (cmp_lt (by simp; omega)).symm | exact (cmp_gt (by simp; omega)).symm
  · unfold Format.order
    rw [read_inf hx, read_inf hy]
    show some (compare (sgn y).toNat (sgn x).toNat) = _
    unfold key
    rw [hx, hy]
    cases sgn y <;> cases sgn x <;> decide

theorem order_nan {x y : Nat} (h : INF < rung x ∨ INF < rung y) : double.order x y = none := by
  unfold Format.order
  rcases h with h | h
  · obtain ⟨s, t, e⟩ := read_nan h
    rw [e]; rfl
  · obtain ⟨s, t, e⟩ := read_nan h
    rw [e]; cases double.read x <;> rfl

/-! ### The tests that the program makes -/
theorem sgn_of {b : Nat} (hb : b < 18446744073709551616) : sgn b = decide (9223372036854775808 ≤ b) := by
  unfold sgn
  by_cases h : 9223372036854775808 ≤ b
  · rw [decide_eq_true h, show b / 9223372036854775808 = 1 from by omega]; rfl
  · rw [decide_eq_false h, show b / 9223372036854775808 = 0 from by omega]; rfl
theorem rung_of {b : Nat} (hb : b < 18446744073709551616) : rung b = if 9223372036854775808 ≤ b then b - 9223372036854775808 else b := by
  unfold rung
  split <;> omega
theorem key_of {b : Nat} (hb : b < 18446744073709551616) : key b = if 9223372036854775808 ≤ b then 9223372036854775808 - (b : Int) else b := by
  unfold key
  rw [sgn_of hb, rung_of hb]
  by_cases h : 9223372036854775808 ≤ b
  · rw [decide_eq_true h, if_pos h, if_pos h, if_pos rfl]; omega
  · rw [decide_eq_false h, if_neg h, if_neg h]; rfl
theorem lt_of_cmp (a b : Int) : (some (compare a b) == some Ordering.lt) = decide (a < b) := by
  simp only [compare, compareOfLessAndEq]
  by_cases h : a < b
  · rw [if_pos h, decide_eq_true h]; rfl
  · by_cases h2 : a = b
    · rw [if_neg h, if_pos h2, decide_eq_false h]; rfl
    · rw [if_neg h, if_neg h2, decide_eq_false h]; rfl
theorem ord_lt (x y : Nat) : (FloatKind.f64.format.order x y == some .lt) = (!isN x && !isN y && decide (key x < key y)) := by
  show (double.order x y == some .lt) = _
  unfold isN
  by_cases h1 : INF < rung x
  · rw [order_nan (.inl h1), decide_eq_true h1]; rfl
  by_cases h2 : INF < rung y
  · rw [order_nan (.inr h2), decide_eq_true h2]; cases decide (INF < rung x) <;> rfl
  rw [order_key (by omega) (by omega), decide_eq_false h1, decide_eq_false h2, lt_of_cmp]; rfl
theorem ord_m {b : Nat} (hb : b < 18446744073709551616) (hn : isN b = false) (h0 : ¬ (b = 0 ∨ b = 9223372036854775808)) : (FloatKind.f64.format.order b 0 == some .lt) = decide (¬ b < 9223372036854775808) := by
  rw [ord_lt, hn, show isN 0 = false from by decide, key_of hb, show key 0 = 0 from by decide]
  simp only [Bool.not_false, Bool.true_and]
  refine decide_eq_decide.2 ?_
  split <;> omega
/-- The least float above, by its bits. -/
def up (b : Nat) : Nat := if isN b = true ∨ b = 9218868437227405312 then b else if b = 0 ∨ b = 9223372036854775808 then 1 else if b < 9223372036854775808 then b + 1 else b - 1
def ng (b : Nat) : Nat := Op.negFloat .f64 b
def dn (b : Nat) : Nat := ng (up (ng b))
def low (b : Nat) : Nat := if isN b = true then 18442240474082181120 else dn b
end Go.Proofs.YtekghdfbhbhigaaGreat.Fl
/- Floats in the logic of calls: a float is a word that is no NaN, or some NaN. -/
set_option linter.unusedVariables false
set_option linter.unusedSimpArgs false
set_option maxRecDepth 100000
namespace Go.Proofs.YtekghdfbhbhigaaGreat.V
open Go.RowKit Mt Nml

/-- A word, where it is no NaN. -/
def fo (b : Nat) : Option Nat := if Fl.isN b then none else some b
def T.F (o : Option Nat) : T := T.ex 1 false (fun b : Nat => b < 18446744073709551616 ∧ fo b = o) (fun b => T.c (.float .f64 b)) (fun _ => ⟨rfl, rfl, rfl⟩)
class BLt (b : Nat) : Prop where lt : b < 18446744073709551616
class IsF (X : T) (o : outParam (Option Nat)) : Prop where le : X.le (T.F o)
instance (o : Option Nat) : IsF (T.F o) o := ⟨.refl _⟩
instance (b : Nat) [h : BLt b] : IsF (T.c (.float .f64 b)) (fo b) := ⟨fun β u v k => ⟨b, ⟨h.lt, rfl⟩, k⟩⟩
instance : BLt 0 := ⟨by decide⟩
instance : BLt 9218868437227405311 := ⟨by decide⟩
instance : BLt 4602678819172646912 := ⟨by decide⟩
instance : BLt 4607182418800017408 := ⟨by decide⟩
def oLt : Option Nat → Option Nat → Bool
  | some x, some y => decide (Fl.key x < Fl.key y)
  | _, _ => false
theorem fo_lt (x y : Nat) : (FloatKind.f64.format.order x y == some .lt) = oLt (fo x) (fo y) := by
  rw [Fl.ord_lt]; unfold fo
  cases hx : Fl.isN x <;> cases hy : Fl.isN y <;> simp [oLt]
section
variable {P : Program} {ops : Array Oper} {fin : List OpS → List (Nat × T) → List (Nat × Option Ent) → Prop} {r : List Oper} {H : List OpS} {g : List (Nat × T)} {E : List (Nat × Option Ent)} {o : Oper}
variable {t : Option Nat} {ty : TypeId} {ps : String} {af : Array Edge} {gd : Option (Nat × Bool)} {x y : Operand} {X Y : T} {e off m n : Nat} {b : Bool} {et : TypeId} {a d : Option Nat}
end
section
variable {P : Program} {ops : Array Oper} {fin : List OpS → List (Nat × T) → List (Nat × Option Ent) → Prop} {r : List Oper} {H : List OpS} {g : List (Nat × T)} {E : List (Nat × Option Ent)}
variable {t : Option Nat} {ty : TypeId} {ps : String} {af : Array Edge} {gd : Option (Nat × Bool)} {X : T}
end
end Go.Proofs.YtekghdfbhbhigaaGreat.V
/- Floats: the next one, infinities, the same. -/
set_option linter.unusedVariables false
set_option linter.unusedSimpArgs false
set_option maxRecDepth 100000
namespace Go.Proofs.YtekghdfbhbhigaaGreat.V
open Go.RowKit Mt Nml
section
variable {P : Program} {ops : Array Oper} {fin : List OpS → List (Nat × T) → List (Nat × Option Ent) → Prop} {r : List Oper} {H : List OpS} {g : List (Nat × T)} {E : List (Nat × Option Ent)} {o : Oper}
variable {t : Option Nat} {ty : TypeId} {ps : String} {af : Array Edge} {gd : Option (Nat × Bool)} {x y : Operand} {X Y : T}
end
theorem lt0 {b : Nat} (hb : b < 18446744073709551616) (hn : Fl.isN b = false) (h : ¬ (b = 0 ∨ b = 9223372036854775808)) : oLt (fo b) (fo 0) = decide (¬ b < 9223372036854775808) := by rw [← fo_lt, Fl.ord_m hb hn h]

end Go.Proofs.YtekghdfbhbhigaaGreat.V
/- Floats as fractions; the law of the floats beside each float. -/
set_option linter.unusedVariables false
set_option linter.unusedSimpArgs false
set_option maxRecDepth 100000
namespace Go.Proofs.YtekghdfbhbhigaaGreat.V
open Go.RowKit Mt Nml
end Go.Proofs.YtekghdfbhbhigaaGreat.V
/- Intervals: sums. -/
set_option linter.unusedVariables false
set_option linter.unusedSimpArgs false
set_option maxRecDepth 100000
namespace Go.Proofs.YtekghdfbhbhigaaGreat.V
open Go.RowKit Mt Nml
end Go.Proofs.YtekghdfbhbhigaaGreat.V
/- Intervals: what they hold. -/
set_option linter.unusedVariables false
set_option linter.unusedSimpArgs false
set_option maxRecDepth 100000
namespace Go.Proofs.YtekghdfbhbhigaaGreat.V
open Go.RowKit Mt Nml
/-- A fraction however told. -/
abbrev T.Qi (a b : Int) (k : Nat) : T := T.st [T.Zi a k, T.Zi b k]
theorem qi_mono {a b : Int} {k k' : Nat} (h : k ≤ k') : (T.Qi a b k).le (T.Qi a b k') := st_le (l := [T.Zi a k, T.Zi b k]) (l' := [T.Zi a k', T.Zi b k']) ⟨zi_mono h, zi_mono h, trivial⟩
theorem q_qi (q : Rat) {k k' : Nat} (h : k ≤ k') : (T.Q q k).le (T.Qi q.num (q.den : Int) k') := st_le (l := [T.Z q.num k, T.Z (q.den : Int) k]) (l' := [T.Zi q.num k', T.Zi (q.den : Int) k']) ⟨(z_zi _ _).trans (zi_mono h), (z_zi _ _).trans (zi_mono h), trivial⟩
theorem rat_addG {a b c d : Int} (hb : b ≠ 0) (hd : d ≠ 0) : ((a * d + c * b : Int) : Rat) / ((b * d : Int) : Rat) = (a : Rat) / (b : Rat) + (c : Rat) / (d : Rat) := by
  rw [← Rat.divInt_eq_div, ← Rat.divInt_eq_div, ← Rat.divInt_eq_div, Rat.divInt_add_divInt _ _ hb hd]
theorem rat_mulG (a b c d : Int) : ((a * c : Int) : Rat) / ((b * d : Int) : Rat) = (a : Rat) / (b : Rat) * ((c : Rat) / (d : Rat)) := by
  rw [← Rat.divInt_eq_div, ← Rat.divInt_eq_div, ← Rat.divInt_eq_div, Rat.divInt_mul_divInt]
theorem rat_negG (a b : Int) : ((-a : Int) : Rat) / (b : Rat) = -((a : Rat) / (b : Rat)) := by
  rw [← Rat.divInt_eq_div, ← Rat.divInt_eq_div, Rat.neg_divInt]
theorem rat_nd (q : Rat) : ((q.num : Int) : Rat) / (((q.den : Int)) : Rat) = q := by rw [← Rat.divInt_eq_div, Rat.num_divInt_den]
instance (k : Nat) (q : Int × Int) : Sp ((cQi k).X q) [T.Zi q.1 k, T.Zi q.2 k] := inferInstanceAs (Sp (T.st [T.Zi q.1 k, T.Zi q.2 k]) _)
theorem two_pos {a b c d : Int} (hb : 0 < b) (hd : 0 < d) : ∀ i, i < [(a, b), (c, d)].length → 0 < ([(a, b), (c, d)].getD i (0, 0)).2 := fun i hi => by
  match i, hi with
  | 0, _ => exact hb
  | 1, _ => exact hd

theorem rat_validG {l : List (Int × Int)} {k : Nat} (hk : k ≤ 34359738368) (hl : l.length ≤ 1048576) (hp : ∀ i, i < l.length → 0 < (l.getD i (0, 0)).2) : Fn Tryz.prog 141 [T.l (cQi k) l] [] [] [] (T.c (.int .i64 0)) := by
  refine fn_of Tryz.func141 rfl (by show 1 ≤ 16; decide) fun cx hcx => ?_
  refine tri_sub (sl 0 rfl sn) en ?_
  refine tri_seq ?_
  refine tri_reg mixed hcx ?_ _ _
  refine asg rfl ?_
  refine ⟨by kernel_rfl, ?_⟩
  refine nx (sl 0 rfl sn) en ?_
  refine tri_seq ?_
  refine tri_seq ?_
  refine tri_reg mixed hcx ?_ _ _
  refine mv rfl ?_
  refine ln slQs rfl ?_
  refine mv rfl ?_
  refine ⟨by kernel_rfl, ?_⟩
  refine nx (sl 5 rfl (sl 6 rfl (sl 7 rfl sn))) en ?_
  refine tri_block ?_
  refine tri_loop (ι := Nat) (fun i => [(5, T.l (cQi k) l), (6, T.c (.int .i64 (l.length : Int))), (7, T.c (.int .i64 (i : Int)))]) (fun i => []) (fun i => l.length - i) (fun i => (i ≤ l.length)) 0 (Nat.zero_le _) (sl 5 rfl (sl 6 rfl (sl 7 rfl sn))) en ?_
  rintro i hi
  refine tri_sub (sl 5 rfl (sl 6 rfl (sl 7 rfl sn))) en ?_
  refine tri_seq ?_
  refine tri_reg mixed hcx ?_ _ _
  refine clt rfl rfl rfl ?_
  refine ⟨by kernel_rfl, ?_⟩
  refine nx (sl 5 rfl (sl 6 rfl (sl 7 rfl (sl 8 rfl sn)))) en ?_
  refine tri_seq ?_
  refine tri_if rfl (fun hc => ?_) (fun hc => ?_)
  · have hsg : sg (l.getD i (cQi k).dflt).2 = 1 := sg_pos (hp i (by omega))
    refine tri_skip ?_
    refine nx (sl 5 rfl (sl 6 rfl (sl 7 rfl sn))) en ?_
    refine tri_seq ?_
    refine tri_block ?_
    refine tri_seq ?_
    refine tri_reg mixed hcx ?_ _ _
    refine ix rfl rfl slQs ⟨rfl, by omega⟩ ?_
    refine lf rfl tyQ ?_
    refine nw 312 zeQ ?_
    refine sts (zz := [T.Zi (l.getD i (cQi k).dflt).1 k, T.Zi (l.getD i (cQi k).dflt).2 k]) rfl rfl rfl tyQ rfl ?_
    refine ⟨by kernel_rfl, ?_⟩
    refine nx (sl 4 rfl (sl 5 rfl (sl 6 rfl (sl 7 rfl sn)))) (el 312 rfl en) ?_
    refine tri_seq ?_
    refine tri_reg mixed hcx ?_ _ _
    refine fa rfl fDen 2 ?_
    refine ld rfl rfl tyZ rfl ?_
    refine ca rfl (h := zi_Sign (by omega)) (hn := ?_)
    refine cle rfl rfl (decide_eq_false (by omega)) ?_
    refine ⟨by kernel_rfl, ?_⟩
    refine nx (sl 5 rfl (sl 6 rfl (sl 7 rfl (sl 14 rfl sn)))) (el 312 rfl en) ?_
    refine tri_false rfl rfl ?_
    refine tri_skip ?_
    refine pn_blk ?_
    refine nx (sl 5 rfl (sl 6 rfl (sl 7 rfl sn))) (el 312 rfl en) ?_
    refine tri_reg mixed hcx ?_ _ _
    refine ad (((i + 1 : Nat) : Int)) rfl rfl rfl (by omega) ?_
    refine mv rfl ?_
    refine ⟨by kernel_rfl, ?_⟩
    exact pn_back (i + 1) (by first | omega | (dsimp only; omega)) (by omega) (sl 5 rfl (sl 6 rfl (sl 7 rfl sn))) en
  · refine tri_exit ?_
    repeat (first | refine pn_then ?_ | refine pn_oth (by decide) ?_)
    refine pn_ex ?_
    refine nx sn en ?_
    refine tri_seq ?_
    refine tri_reg mixed hcx ?_ _ _
    refine asg rfl ?_
    refine ⟨by kernel_rfl, ?_⟩
    refine nx (sl 2 rfl sn) en ?_
    refine tri_ret ?_
    repeat (first | refine pn_thenr ?_ | refine pn_blkr ?_)
    exact ret1 hcx rfl (rv_tmp rfl) (.refl _) en

theorem rat_CmpG {a b c d : Int} {k l : Nat} (hb : 0 < b) (hd : 0 < d) (hk : k ≤ 17179869184) (hl : l ≤ 17179869184) : Fn Tryz.prog 120 [T.Qi a b k, T.Qi c d l] [] [] [] (T.tup [T.c (.int .i64 (sgnc (a * d) (c * b))), T.c (.int .i64 0)]) := by
  refine fn_of Tryz.func120 rfl (by show 2 ≤ 25; decide) fun cx hcx => ?_
  refine tri_sub (sl 0 rfl (sl 1 rfl sn)) en ?_
  refine tri_seq ?_
  refine tri_reg mixed hcx ?_ _ _
  refine bxs 10 rfl ?_
  refine bxs 11 rfl ?_
  refine asg rfl ?_
  refine asg rfl ?_
  refine ⟨by kernel_rfl, ?_⟩
  refine nx (sl 2 rfl (sl 3 rfl sn)) (el 10 rfl (el 11 rfl en)) ?_
  refine tri_seq ?_
  refine tri_seq ?_
  refine tri_reg mixed hcx ?_ _ _
  refine ld rfl rfl tyQ rfl ?_
  refine ld rfl rfl tyQ rfl ?_
  refine bs (c := cQi (k + l)) (xs := [(a, b), (c, d)]) slQs rfl ⟨qi_mono (by omega), qi_mono (by omega), trivial⟩ ?_
  refine ca rfl (h := rat_validG (by omega) (by simp) (two_pos hb hd)) (hn := ?_)
  refine asg rfl ?_
  refine ⟨by kernel_rfl, ?_⟩
  refine nx (sl 2 rfl (sl 3 rfl (sl 6 rfl sn))) (el 10 rfl (el 11 rfl en)) ?_
  refine tri_seq ?_
  refine tri_reg mixed hcx ?_ _ _
  refine mv rfl ?_
  refine cne rfl rfl (decide_eq_false (by omega)) ?_
  refine ⟨by kernel_rfl, ?_⟩
  refine nx (sl 2 rfl (sl 3 rfl (sl 6 rfl (sl 12 rfl sn)))) (el 10 rfl (el 11 rfl en)) ?_
  refine tri_false rfl rfl ?_
  refine tri_skip ?_
  refine nx (sl 2 rfl (sl 3 rfl sn)) (el 10 rfl (el 11 rfl en)) ?_
  refine tri_seq ?_
  refine tri_reg mixed hcx ?_ _ _
  refine fa rfl fNum 0 ?_
  refine ld rfl rfl tyZ rfl ?_
  refine fa rfl fDen 2 ?_
  refine ld rfl rfl tyZ rfl ?_
  refine ca rfl (h := zi_Mul (by omega) (by omega)) (hn := ?_)
  refine fa rfl fNum 0 ?_
  refine ld rfl rfl tyZ rfl ?_
  refine fa rfl fDen 2 ?_
  refine ld rfl rfl tyZ rfl ?_
  refine ca rfl (h := zi_Mul (by omega) (by omega)) (hn := ?_)
  refine ca rfl (h := zi_Compare (by omega) (by omega)) (hn := ?_)
  refine asg rfl ?_
  refine asg rfl ?_
  refine ⟨by kernel_rfl, ?_⟩
  refine nx (sl 4 rfl (sl 5 rfl sn)) (el 10 rfl (el 11 rfl en)) ?_
  refine tri_ret ?_
  repeat (first | refine pn_thenr ?_ | refine pn_blkr ?_)
  exact ret2 hcx rfl (rv_tmp rfl) (rv_tmp rfl) (.refl _) en

theorem r03_NegG {a b : Int} {k : Nat} (hb : b ≠ 0) (hk : k ≤ 68719476736) : Fn Tryz.prog 95 [T.Qi a b k] [] [] [] (T.Q (-((a : Rat) / (b : Rat))) (k + k)) := by
  refine fn_of Tryz.func95 rfl (by show 1 ≤ 9; decide) fun cx hcx => ?_
  refine tri_sub (sl 0 rfl sn) en ?_
  refine tri_seq ?_
  refine tri_reg mixed hcx ?_ _ _
  refine bxs 10 rfl ?_
  refine nw 11 zeQ ?_
  refine ⟨by kernel_rfl, ?_⟩
  refine nx (sl 1 rfl (sl 2 rfl sn)) (el 10 rfl (el 11 rfl en)) ?_
  refine tri_seq ?_
  refine tri_reg mixed hcx ?_ _ _
  refine fa rfl fNum 0 ?_
  refine ld rfl rfl tyZ rfl ?_
  refine ca rfl (h := r02_Neg (by omega)) (hn := ?_)
  refine fa rfl fDen 2 ?_
  refine ld rfl rfl tyZ rfl ?_
  refine ca rfl (h := r03_Make (by first | assumption | omega) (by omega) (by omega)) (hn := ?_)
  refine st rfl rfl rfl tyQ rfl ?_
  refine ⟨by kernel_rfl, ?_⟩
  refine nx (sl 2 rfl sn) (el 10 rfl (el 11 rfl en)) ?_
  refine tri_ret ?_
  repeat (first | refine pn_thenr ?_ | refine pn_blkr ?_)
  exact ret1 hcx rfl (rv_cell (c' := cx) (n := 0) rfl rfl tyQ rfl) (q_eq (rat_negG a b) (Nat.le_refl _)) en

theorem r03_AddG {a b c d : Int} {k l : Nat} (hb0 : b ≠ 0) (hd0 : d ≠ 0) (hk : k ≤ 68719476736) (hl : l ≤ 68719476736) : Fn Tryz.prog 74 [T.Qi a b k, T.Qi c d l] [] [] [] (T.Q ((a : Rat) / (b : Rat) + (c : Rat) / (d : Rat)) (3 * (k + l) + 1)) := by
  refine fn_of Tryz.func74 rfl (by show 2 ≤ 26; decide) fun cx hcx => ?_
  refine tri_sub (sl 0 rfl (sl 1 rfl sn)) en ?_
  have hbd0 : b * d ≠ 0 := Int.mul_ne_zero hb0 hd0
  refine tri_seq ?_
  refine tri_reg mixed hcx ?_ _ _
  refine bxs 10 rfl ?_
  refine bxs 11 rfl ?_
  refine nw 12 zeQ ?_
  refine ⟨by kernel_rfl, ?_⟩
  refine nx (sl 2 rfl (sl 3 rfl (sl 4 rfl sn))) (el 10 rfl (el 11 rfl (el 12 rfl en))) ?_
  refine tri_seq ?_
  refine tri_reg mixed hcx ?_ _ _
  refine fa rfl fNum 0 ?_
  refine ld rfl rfl tyZ rfl ?_
  refine fa rfl fDen 2 ?_
  refine ld rfl rfl tyZ rfl ?_
  refine ca rfl (h := r02_Mul (by omega) (by omega)) (hn := ?_)
  refine nw 115 zeZ ?_
  refine st rfl rfl rfl tyZ rfl ?_
  refine ⟨by kernel_rfl, ?_⟩
  refine nx (sl 2 rfl (sl 3 rfl (sl 4 rfl (sl 5 rfl sn)))) (el 10 rfl (el 11 rfl (el 12 rfl (el 115 rfl en)))) ?_
  refine tri_seq ?_
  refine tri_reg mixed hcx ?_ _ _
  refine fa rfl fNum 0 ?_
  refine ld rfl rfl tyZ rfl ?_
  refine fa rfl fDen 2 ?_
  refine ld rfl rfl tyZ rfl ?_
  refine ca rfl (h := r02_Mul (by omega) (by omega)) (hn := ?_)
  refine nw 215 zeZ ?_
  refine st rfl rfl rfl tyZ rfl ?_
  refine ⟨by kernel_rfl, ?_⟩
  refine nx (sl 2 rfl (sl 3 rfl (sl 4 rfl (sl 5 rfl (sl 6 rfl sn))))) (el 10 rfl (el 11 rfl (el 12 rfl (el 115 rfl (el 215 rfl en))))) ?_
  refine tri_seq ?_
  refine tri_reg mixed hcx ?_ _ _
  refine ld rfl rfl tyZ rfl ?_
  refine ld rfl rfl tyZ rfl ?_
  refine ca rfl (h := r02_Add (by omega) (by omega)) (hn := ?_)
  refine fa rfl fDen 2 ?_
  refine ld rfl rfl tyZ rfl ?_
  refine fa rfl fDen 2 ?_
  refine ld rfl rfl tyZ rfl ?_
  refine ca rfl (h := r02_Mul (by omega) (by omega)) (hn := ?_)
  refine ca rfl (h := r03_Make (by first | assumption | omega) (by omega) (by omega)) (hn := ?_)
  refine st rfl rfl rfl tyQ rfl ?_
  refine ⟨by kernel_rfl, ?_⟩
  refine nx (sl 4 rfl sn) (el 10 rfl (el 11 rfl (el 12 rfl (el 115 rfl (el 215 rfl en))))) ?_
  refine tri_ret ?_
  repeat (first | refine pn_thenr ?_ | refine pn_blkr ?_)
  exact ret1 hcx rfl (rv_cell (c' := cx) (n := 0) rfl rfl tyQ rfl) (q_eq (rat_addG hb0 hd0) (by omega)) en

theorem subG (x : Rat) {c d : Int} : x + ((-((c : Rat) / (d : Rat))).num : Rat) / (((-((c : Rat) / (d : Rat))).den : Int) : Rat) = x - (c : Rat) / (d : Rat) := by rw [rat_nd]; exact (Rat.sub_eq_add_neg _ _).symm

theorem r03_SubG {a b c d : Int} {k l : Nat} (hb : 0 < b) (hd : 0 < d) (hk : k ≤ 17179869184) (hl : l ≤ 17179869184) : Fn Tryz.prog 73 [T.Qi a b k, T.Qi c d l] [] [] [] (T.Q ((a : Rat) / (b : Rat) - (c : Rat) / (d : Rat)) (3 * (k + (l + l)) + 1)) := by
  refine fn_of Tryz.func73 rfl (by show 2 ≤ 9; decide) fun cx hcx => ?_
  refine tri_sub (sl 0 rfl (sl 1 rfl sn)) en ?_
  have hb0 : b ≠ 0 := by omega
  have hd0 : d ≠ 0 := by omega
  have hn := den_ne (-((c : Rat) / (d : Rat)))
  refine tri_seq ?_
  refine tri_reg mixed hcx ?_ _ _
  refine bxs 10 rfl ?_
  refine bxs 11 rfl ?_
  refine nw 12 zeQ ?_
  refine ⟨by kernel_rfl, ?_⟩
  refine nx (sl 2 rfl (sl 3 rfl (sl 4 rfl sn))) (el 10 rfl (el 11 rfl (el 12 rfl en))) ?_
  refine tri_seq ?_
  refine tri_reg mixed hcx ?_ _ _
  refine ld rfl rfl tyQ rfl ?_
  refine ld rfl rfl tyQ rfl ?_
  refine ca rfl (h := r03_NegG hd0 (by omega)) (hn := ?_)
  refine ca rfl (h := r03_AddG hb0 hn (by omega) (by omega)) (hn := ?_)
  refine st rfl rfl rfl tyQ rfl ?_
  refine ⟨by kernel_rfl, ?_⟩
  refine nx (sl 4 rfl sn) (el 10 rfl (el 11 rfl (el 12 rfl en))) ?_
  refine tri_ret ?_
  repeat (first | refine pn_thenr ?_ | refine pn_blkr ?_)
  exact ret1 hcx rfl (rv_cell (c' := cx) (n := 0) rfl rfl tyQ rfl) (q_eq (subG _) (Nat.le_refl _)) en

theorem r03_CmpG {a b c d : Int} {k l : Nat} (hb : 0 < b) (hd : 0 < d) (hk : k ≤ 17179869184) (hl : l ≤ 17179869184) : Fn Tryz.prog 31 [T.Qi a b k, T.Qi c d l] [] [] [] (T.c (.int .i64 (sg ((a : Rat) / (b : Rat) - (c : Rat) / (d : Rat)).num))) := by
  refine fn_of Tryz.func31 rfl (by show 2 ≤ 10; decide) fun cx hcx => ?_
  refine tri_sub (sl 0 rfl (sl 1 rfl sn)) en ?_
  refine tri_seq ?_
  refine tri_reg mixed hcx ?_ _ _
  refine bxs 10 rfl ?_
  refine bxs 11 rfl ?_
  refine asg rfl ?_
  refine ⟨by kernel_rfl, ?_⟩
  refine nx (sl 2 rfl (sl 3 rfl sn)) (el 10 rfl (el 11 rfl en)) ?_
  refine tri_seq ?_
  refine tri_reg mixed hcx ?_ _ _
  refine ld rfl rfl tyQ rfl ?_
  refine ld rfl rfl tyQ rfl ?_
  refine ca rfl (h := r03_SubG hb hd (by omega) (by omega)) (hn := ?_)
  refine fd rfl fNum rfl ?_
  refine ca rfl (h := r02_Sign (by omega)) (hn := ?_)
  refine asg rfl ?_
  refine ⟨by kernel_rfl, ?_⟩
  refine nx (sl 4 rfl sn) (el 10 rfl (el 11 rfl en)) ?_
  refine tri_ret ?_
  repeat (first | refine pn_thenr ?_ | refine pn_blkr ?_)
  exact ret1 hcx rfl (rv_tmp rfl) (.refl _) en

theorem sg_pos_iff {b : Int} : 0 < sg b ↔ 0 < b := by unfold sg sgnc; split <;> (try split) <;> omega

theorem r03_ValidG {a b : Int} {k : Nat} {q : Bool} (hq : q = true ↔ 0 < b) (hk : k ≤ 17179869184) : Fn Tryz.prog 47 [T.Qi a b k] [] [] [] (T.c (.bool q)) := by
  refine fn_of Tryz.func47 rfl (by show 1 ≤ 7; decide) fun cx hcx => ?_
  refine tri_sub (sl 0 rfl sn) en ?_
  have hs := @sg_pos_iff b
  refine tri_seq ?_
  refine tri_reg mixed hcx ?_ _ _
  refine bxs 10 rfl ?_
  refine asg rfl ?_
  refine ⟨by kernel_rfl, ?_⟩
  refine nx (sl 1 rfl sn) (el 10 rfl en) ?_
  refine tri_seq ?_
  refine tri_reg mixed hcx ?_ _ _
  refine fa rfl fDen 2 ?_
  refine ld rfl rfl tyZ rfl ?_
  refine ca rfl (h := r02_Sign (by omega)) (hn := ?_)
  refine cgt rfl rfl rfl ?_
  refine asg rfl ?_
  refine ⟨by kernel_rfl, ?_⟩
  refine nx (sl 2 rfl sn) (el 10 rfl en) ?_
  refine tri_ret ?_
  repeat (first | refine pn_thenr ?_ | refine pn_blkr ?_)
  exact ret1 hcx rfl (rv_tmp rfl) (.of (by rw [show decide ((0 : Int) < sg b) = q from by cases q <;> simp_all])) en

section
variable {P : Program} {x : Code} {Q : Exit → Act → World → Prop} {ctx : Ctx} {n : Nat} {g : List (Nat × T)} {E : List (Nat × Option Ent)}
end
end Go.Proofs.YtekghdfbhbhigaaGreat.V
/- Sums, differences, products, quotients of any fractions. -/
set_option linter.unusedVariables false
set_option linter.unusedSimpArgs false
set_option maxRecDepth 100000
namespace Go.Proofs.YtekghdfbhbhigaaGreat.V
open Go.RowKit Mt Nml
theorem rat_subG {a b c d : Int} (hb : b ≠ 0) (hd : d ≠ 0) : ((a * d - c * b : Int) : Rat) / ((b * d : Int) : Rat) = (a : Rat) / (b : Rat) - (c : Rat) / (d : Rat) := by
  rw [Rat.sub_eq_add_neg, ← rat_negG, ← rat_addG hb hd, Int.sub_eq_add_neg, Int.neg_mul]
theorem rat_twoG {a b c d : Int} {s : Rat} {k l m : Nat} {f : FuncId} {Cs : List T} (hb : 0 < b) (hd : 0 < d) (hf : Fn Tryz.prog f Cs [] [] [] (T.Q s m)) (hen : Enters Tryz.prog f) (hns : Cs.flatMap (·.ns) = []) (hk : k ≤ 17179869184) (hl : l ≤ 17179869184) : Fn Tryz.prog 176 [T.Qi a b k, T.Qi c d l, T.clo f Cs hns] [] [] [] (T.tup [T.Q s m, T.c (.int .i64 0)]) := by
  refine fn_of Tryz.func176 rfl (by show 3 ≤ 19; decide) fun cx hcx => ?_
  refine tri_sub (sl 0 rfl (sl 1 rfl (sl 2 rfl sn))) en ?_
  refine tri_seq ?_
  refine tri_reg mixed hcx ?_ _ _
  refine bxs 10 rfl ?_
  refine bxs 11 rfl ?_
  refine nw 12 zeQ ?_
  refine asg rfl ?_
  refine ⟨by kernel_rfl, ?_⟩
  refine nx (sl 2 rfl (sl 3 rfl (sl 4 rfl (sl 6 rfl sn)))) (el 10 rfl (el 11 rfl (el 12 rfl en))) ?_
  refine tri_seq ?_
  refine tri_seq ?_
  refine tri_reg mixed hcx ?_ _ _
  refine ld rfl rfl tyQ rfl ?_
  refine ld rfl rfl tyQ rfl ?_
  refine bs (c := cQi (k + l)) (xs := [(a, b), (c, d)]) slQs rfl ⟨qi_mono (by omega), qi_mono (by omega), trivial⟩ ?_
  refine ca rfl (h := rat_validG (by omega) (by simp) (two_pos hb hd)) (hn := ?_)
  refine asg rfl ?_
  refine ⟨by kernel_rfl, ?_⟩
  refine nx (sl 2 rfl (sl 6 rfl (sl 8 rfl sn))) (el 10 rfl (el 11 rfl (el 12 rfl en))) ?_
  refine tri_seq ?_
  refine tri_reg mixed hcx ?_ _ _
  refine mv rfl ?_
  refine cne rfl rfl (decide_eq_false (by omega)) ?_
  refine ⟨by kernel_rfl, ?_⟩
  refine nx (sl 2 rfl (sl 6 rfl (sl 8 rfl (sl 14 rfl sn)))) (el 10 rfl (el 11 rfl (el 12 rfl en))) ?_
  refine tri_false rfl rfl ?_
  refine tri_skip ?_
  refine nx (sl 2 rfl (sl 6 rfl sn)) (el 10 rfl (el 11 rfl (el 12 rfl en))) ?_
  refine tri_seq ?_
  refine tri_as 2 (Z := T.fn f Cs) rfl clo_ge ?_
  refine tri_reg mixed hcx ?_ _ _
  refine mv rfl ?_
  refine cf rfl rfl hf hen ?_
  refine st rfl rfl rfl tyQ rfl ?_
  refine asg rfl ?_
  refine ⟨by kernel_rfl, ?_⟩
  refine nx (sl 6 rfl (sl 7 rfl sn)) (el 10 rfl (el 11 rfl (el 12 rfl en))) ?_
  refine tri_ret ?_
  repeat (first | refine pn_thenr ?_ | refine pn_blkr ?_)
  exact ret2 hcx rfl (rv_cell (c' := cx) (n := 0) rfl rfl tyQ rfl) (rv_tmp rfl) (.refl _) en

theorem rat_Add1G {a b c d : Int} {k l : Nat} (hb : 0 < b) (hd : 0 < d) (hk : k ≤ 17179869184) (hl : l ≤ 17179869184) : Fn Tryz.prog 187 [T.fp (T.Qi a b k), T.fp (T.Qi c d l)] [] [] [] (T.Q ((a : Rat) / (b : Rat) + ((c : Rat) / (d : Rat))) (3 * (k + l) + 1)) := by
  refine fn_of Tryz.func187 rfl (by show 2 ≤ 20; decide) fun cx hcx => ?_
  refine tri_sub (sl 0 rfl (sl 1 rfl sn)) en ?_
  have hb0 : b ≠ 0 := by omega
  have hd0 : d ≠ 0 := by omega
  have hbd0 : b * d ≠ 0 := Int.mul_ne_zero hb0 hd0
  refine tri_seq ?_
  refine tri_reg mixed hcx ?_ _ _
  refine nw 10 zeQ ?_
  refine ⟨by kernel_rfl, ?_⟩
  refine nx (sl 0 rfl (sl 1 rfl (sl 2 rfl sn))) (el 10 rfl en) ?_
  refine tri_seq ?_
  refine tri_reg mixed hcx ?_ _ _
  refine ff rfl fNum rfl ?_
  refine lf rfl tyZ ?_
  refine ff rfl fDen rfl ?_
  refine lf rfl tyZ ?_
  refine ca rfl (h := zi_Mul (by omega) (by omega)) (hn := ?_)
  refine ff rfl fNum rfl ?_
  refine lf rfl tyZ ?_
  refine ff rfl fDen rfl ?_
  refine lf rfl tyZ ?_
  refine ca rfl (h := zi_Mul (by omega) (by omega)) (hn := ?_)
  refine ca rfl (h := zi_Add (by omega) (by omega)) (hn := ?_)
  refine ff rfl fDen rfl ?_
  refine lf rfl tyZ ?_
  refine ff rfl fDen rfl ?_
  refine lf rfl tyZ ?_
  refine ca rfl (h := zi_Mul (by omega) (by omega)) (hn := ?_)
  refine ca rfl (h := rat_mk (by assumption) (by omega) (by omega)) (hn := ?_)
  refine st rfl rfl rfl tyQ rfl ?_
  refine ⟨by kernel_rfl, ?_⟩
  refine nx (sl 2 rfl sn) (el 10 rfl en) ?_
  refine tri_ret ?_
  repeat (first | refine pn_thenr ?_ | refine pn_blkr ?_)
  exact ret1 hcx rfl (rv_cell (c' := cx) (n := 0) rfl rfl tyQ rfl) (q_eq (rat_addG hb0 hd0) (by omega)) en

theorem rat_AddG {a b c d : Int} {k l : Nat} (hb : 0 < b) (hd : 0 < d) (hk : k ≤ 17179869184) (hl : l ≤ 17179869184) : Fn Tryz.prog 161 [T.Qi a b k, T.Qi c d l] [] [] [] (T.tup [T.Q ((a : Rat) / (b : Rat) + ((c : Rat) / (d : Rat))) (3 * (k + l) + 1), T.c (.int .i64 0)]) := by
  refine fn_of Tryz.func161 rfl (by show 2 ≤ 12; decide) fun cx hcx => ?_
  refine tri_sub (sl 0 rfl (sl 1 rfl sn)) en ?_
  have hfn := rat_Add1G (a := a) (b := b) (c := c) (d := d) hb hd hk hl
  have hclo := clo_le (f := 187) (Cs := [T.fp (T.Qi a b k), T.fp (T.Qi c d l)]) (h := rfl)
  refine tri_seq ?_
  refine tri_reg mixed hcx ?_ _ _
  refine bxs 10 rfl ?_
  refine bxs 11 rfl ?_
  refine nw 12 zeQ ?_
  refine asg rfl ?_
  refine ⟨by kernel_rfl, ?_⟩
  refine nx (sl 2 rfl (sl 3 rfl (sl 4 rfl sn))) (el 10 rfl (el 11 rfl (el 12 rfl en))) ?_
  refine tri_seq ?_
  refine tri_fzb 2 10 rfl rfl (by show (4 : Nat) ≠ 0; decide) ?_
  refine tri_fzb 3 11 rfl rfl (by show (4 : Nat) ≠ 0; decide) ?_
  refine tri_sub (sl 2 rfl (sl 3 rfl (sl 4 rfl sn))) (el 12 rfl en) ?_
  refine tri_reg mixed hcx ?_ _ _
  refine lf rfl tyQ ?_
  refine lf rfl tyQ ?_
  refine mf rfl ?_
  refine ca rfl (h := rat_twoG hb hd hfn (by intro a w; kernel_rfl) rfl (by omega) (by omega)) (hn := ?_)
  refine ex rfl rfl ?_
  refine ex rfl rfl ?_
  refine st rfl rfl rfl tyQ rfl ?_
  refine asg rfl ?_
  refine ⟨by kernel_rfl, ?_⟩
  refine nx (sl 4 rfl (sl 5 rfl sn)) (el 12 rfl en) ?_
  refine tri_ret ?_
  repeat (first | refine pn_thenr ?_ | refine pn_blkr ?_)
  exact ret2 hcx rfl (rv_cell (c' := cx) (n := 0) rfl rfl tyQ rfl) (rv_tmp rfl) (.refl _) en

theorem rat_Sub1G {a b c d : Int} {k l : Nat} (hb : 0 < b) (hd : 0 < d) (hk : k ≤ 17179869184) (hl : l ≤ 17179869184) : Fn Tryz.prog 177 [T.fp (T.Qi a b k), T.fp (T.Qi c d l)] [] [] [] (T.Q ((a : Rat) / (b : Rat) - ((c : Rat) / (d : Rat))) (3 * (k + l) + 1)) := by
  refine fn_of Tryz.func177 rfl (by show 2 ≤ 20; decide) fun cx hcx => ?_
  refine tri_sub (sl 0 rfl (sl 1 rfl sn)) en ?_
  have hb0 : b ≠ 0 := by omega
  have hd0 : d ≠ 0 := by omega
  have hbd0 : b * d ≠ 0 := Int.mul_ne_zero hb0 hd0
  refine tri_seq ?_
  refine tri_reg mixed hcx ?_ _ _
  refine nw 10 zeQ ?_
  refine ⟨by kernel_rfl, ?_⟩
  refine nx (sl 0 rfl (sl 1 rfl (sl 2 rfl sn))) (el 10 rfl en) ?_
  refine tri_seq ?_
  refine tri_reg mixed hcx ?_ _ _
  refine ff rfl fNum rfl ?_
  refine lf rfl tyZ ?_
  refine ff rfl fDen rfl ?_
  refine lf rfl tyZ ?_
  refine ca rfl (h := zi_Mul (by omega) (by omega)) (hn := ?_)
  refine ff rfl fNum rfl ?_
  refine lf rfl tyZ ?_
  refine ff rfl fDen rfl ?_
  refine lf rfl tyZ ?_
  refine ca rfl (h := zi_Mul (by omega) (by omega)) (hn := ?_)
  refine ca rfl (h := zi_Sub (by omega) (by omega)) (hn := ?_)
  refine ff rfl fDen rfl ?_
  refine lf rfl tyZ ?_
  refine ff rfl fDen rfl ?_
  refine lf rfl tyZ ?_
  refine ca rfl (h := zi_Mul (by omega) (by omega)) (hn := ?_)
  refine ca rfl (h := rat_mk (by assumption) (by omega) (by omega)) (hn := ?_)
  refine st rfl rfl rfl tyQ rfl ?_
  refine ⟨by kernel_rfl, ?_⟩
  refine nx (sl 2 rfl sn) (el 10 rfl en) ?_
  refine tri_ret ?_
  repeat (first | refine pn_thenr ?_ | refine pn_blkr ?_)
  exact ret1 hcx rfl (rv_cell (c' := cx) (n := 0) rfl rfl tyQ rfl) (q_eq (rat_subG hb0 hd0) (by omega)) en

theorem rat_SubG {a b c d : Int} {k l : Nat} (hb : 0 < b) (hd : 0 < d) (hk : k ≤ 17179869184) (hl : l ≤ 17179869184) : Fn Tryz.prog 140 [T.Qi a b k, T.Qi c d l] [] [] [] (T.tup [T.Q ((a : Rat) / (b : Rat) - ((c : Rat) / (d : Rat))) (3 * (k + l) + 1), T.c (.int .i64 0)]) := by
  refine fn_of Tryz.func140 rfl (by show 2 ≤ 12; decide) fun cx hcx => ?_
  refine tri_sub (sl 0 rfl (sl 1 rfl sn)) en ?_
  have hfn := rat_Sub1G (a := a) (b := b) (c := c) (d := d) hb hd hk hl
  have hclo := clo_le (f := 177) (Cs := [T.fp (T.Qi a b k), T.fp (T.Qi c d l)]) (h := rfl)
  refine tri_seq ?_
  refine tri_reg mixed hcx ?_ _ _
  refine bxs 10 rfl ?_
  refine bxs 11 rfl ?_
  refine nw 12 zeQ ?_
  refine asg rfl ?_
  refine ⟨by kernel_rfl, ?_⟩
  refine nx (sl 2 rfl (sl 3 rfl (sl 4 rfl sn))) (el 10 rfl (el 11 rfl (el 12 rfl en))) ?_
  refine tri_seq ?_
  refine tri_fzb 2 10 rfl rfl (by show (4 : Nat) ≠ 0; decide) ?_
  refine tri_fzb 3 11 rfl rfl (by show (4 : Nat) ≠ 0; decide) ?_
  refine tri_sub (sl 2 rfl (sl 3 rfl (sl 4 rfl sn))) (el 12 rfl en) ?_
  refine tri_reg mixed hcx ?_ _ _
  refine lf rfl tyQ ?_
  refine lf rfl tyQ ?_
  refine mf rfl ?_
  refine ca rfl (h := rat_twoG hb hd hfn (by intro a w; kernel_rfl) rfl (by omega) (by omega)) (hn := ?_)
  refine ex rfl rfl ?_
  refine ex rfl rfl ?_
  refine st rfl rfl rfl tyQ rfl ?_
  refine asg rfl ?_
  refine ⟨by kernel_rfl, ?_⟩
  refine nx (sl 4 rfl (sl 5 rfl sn)) (el 12 rfl en) ?_
  refine tri_ret ?_
  repeat (first | refine pn_thenr ?_ | refine pn_blkr ?_)
  exact ret2 hcx rfl (rv_cell (c' := cx) (n := 0) rfl rfl tyQ rfl) (rv_tmp rfl) (.refl _) en

theorem rat_Mul1G {a b c d : Int} {k l : Nat} (hb : 0 < b) (hd : 0 < d) (hk : k ≤ 17179869184) (hl : l ≤ 17179869184) : Fn Tryz.prog 186 [T.fp (T.Qi a b k), T.fp (T.Qi c d l)] [] [] [] (T.Q ((a : Rat) / (b : Rat) * ((c : Rat) / (d : Rat))) (2 * (k + l))) := by
  refine fn_of Tryz.func186 rfl (by show 2 ≤ 14; decide) fun cx hcx => ?_
  refine tri_sub (sl 0 rfl (sl 1 rfl sn)) en ?_
  have hb0 : b ≠ 0 := by omega
  have hd0 : d ≠ 0 := by omega
  have hbd0 : b * d ≠ 0 := Int.mul_ne_zero hb0 hd0
  refine tri_seq ?_
  refine tri_reg mixed hcx ?_ _ _
  refine nw 10 zeQ ?_
  refine ⟨by kernel_rfl, ?_⟩
  refine nx (sl 0 rfl (sl 1 rfl (sl 2 rfl sn))) (el 10 rfl en) ?_
  refine tri_seq ?_
  refine tri_reg mixed hcx ?_ _ _
  refine ff rfl fNum rfl ?_
  refine lf rfl tyZ ?_
  refine ff rfl fNum rfl ?_
  refine lf rfl tyZ ?_
  refine ca rfl (h := zi_Mul (by omega) (by omega)) (hn := ?_)
  refine ff rfl fDen rfl ?_
  refine lf rfl tyZ ?_
  refine ff rfl fDen rfl ?_
  refine lf rfl tyZ ?_
  refine ca rfl (h := zi_Mul (by omega) (by omega)) (hn := ?_)
  refine ca rfl (h := rat_mk (by assumption) (by omega) (by omega)) (hn := ?_)
  refine st rfl rfl rfl tyQ rfl ?_
  refine ⟨by kernel_rfl, ?_⟩
  refine nx (sl 2 rfl sn) (el 10 rfl en) ?_
  refine tri_ret ?_
  repeat (first | refine pn_thenr ?_ | refine pn_blkr ?_)
  exact ret1 hcx rfl (rv_cell (c' := cx) (n := 0) rfl rfl tyQ rfl) (q_eq (rat_mulG _ _ _ _) (by omega)) en

theorem rat_MulG {a b c d : Int} {k l : Nat} (hb : 0 < b) (hd : 0 < d) (hk : k ≤ 17179869184) (hl : l ≤ 17179869184) : Fn Tryz.prog 160 [T.Qi a b k, T.Qi c d l] [] [] [] (T.tup [T.Q ((a : Rat) / (b : Rat) * ((c : Rat) / (d : Rat))) (2 * (k + l)), T.c (.int .i64 0)]) := by
  refine fn_of Tryz.func160 rfl (by show 2 ≤ 12; decide) fun cx hcx => ?_
  refine tri_sub (sl 0 rfl (sl 1 rfl sn)) en ?_
  have hfn := rat_Mul1G (a := a) (b := b) (c := c) (d := d) hb hd hk hl
  have hclo := clo_le (f := 186) (Cs := [T.fp (T.Qi a b k), T.fp (T.Qi c d l)]) (h := rfl)
  refine tri_seq ?_
  refine tri_reg mixed hcx ?_ _ _
  refine bxs 10 rfl ?_
  refine bxs 11 rfl ?_
  refine nw 12 zeQ ?_
  refine asg rfl ?_
  refine ⟨by kernel_rfl, ?_⟩
  refine nx (sl 2 rfl (sl 3 rfl (sl 4 rfl sn))) (el 10 rfl (el 11 rfl (el 12 rfl en))) ?_
  refine tri_seq ?_
  refine tri_fzb 2 10 rfl rfl (by show (4 : Nat) ≠ 0; decide) ?_
  refine tri_fzb 3 11 rfl rfl (by show (4 : Nat) ≠ 0; decide) ?_
  refine tri_sub (sl 2 rfl (sl 3 rfl (sl 4 rfl sn))) (el 12 rfl en) ?_
  refine tri_reg mixed hcx ?_ _ _
  refine lf rfl tyQ ?_
  refine lf rfl tyQ ?_
  refine mf rfl ?_
  refine ca rfl (h := rat_twoG hb hd hfn (by intro a w; kernel_rfl) rfl (by omega) (by omega)) (hn := ?_)
  refine ex rfl rfl ?_
  refine ex rfl rfl ?_
  refine st rfl rfl rfl tyQ rfl ?_
  refine asg rfl ?_
  refine ⟨by kernel_rfl, ?_⟩
  refine nx (sl 4 rfl (sl 5 rfl sn)) (el 12 rfl en) ?_
  refine tri_ret ?_
  repeat (first | refine pn_thenr ?_ | refine pn_blkr ?_)
  exact ret2 hcx rfl (rv_cell (c' := cx) (n := 0) rfl rfl tyQ rfl) (rv_tmp rfl) (.refl _) en

end Go.Proofs.YtekghdfbhbhigaaGreat.V
/- A point along a row. -/
set_option linter.unusedVariables false
set_option linter.unusedSimpArgs false
set_option maxRecDepth 100000
namespace Go.Proofs.YtekghdfbhbhigaaGreat.V
open Go.RowKit Mt Nml
theorem den_p' (q : Rat) : 0 < ((q.den : Int)) := Int.natCast_pos.2 q.den_pos

end Go.Proofs.YtekghdfbhbhigaaGreat.V
/- Fractions by what they are worth. -/
set_option linter.unusedVariables false
set_option linter.unusedSimpArgs false
set_option maxRecDepth 100000
namespace Go.Proofs.YtekghdfbhbhigaaGreat.V
open Go.RowKit Mt Nml
/-- A fraction by what it is worth, however told. -/
def T.V (q : Rat) (k : Nat) : T := T.ex 4 true (fun p : Int × Int => 0 < p.2 ∧ (p.1 : Rat) / (p.2 : Rat) = q ∧ zl p.1 ≤ k ∧ zl p.2 ≤ k) (fun p => T.Qi p.1 p.2 k) (fun _ => ⟨rfl, rfl, rfl⟩)
theorem zi_zl {z : Int} {k : Nat} {β : Env} {u : World} {v : Value} (h : (T.Zi z k).rep β u v) : zl z ≤ k := by
  obtain ⟨i, ⟨k1, k2, k3⟩, _⟩ := h
  obtain ⟨M, hM⟩ := Int.eq_ofNat_of_zero_le (val_nonneg k1)
  rw [k2, hM]
  exact z_bd (s := i.1) k1 hM k3
theorem qi_v {a b : Int} {q : Rat} {k k' : Nat} (hb : 0 < b) (e : (a : Rat) / (b : Rat) = q) (hk : k ≤ k') : (T.Qi a b k).le (T.V q k') := fun β u v h => by
  have h2 := h
  obtain ⟨cs, e1, v1, r1, z1, h1, e2, v2, r2, z2, h3, _⟩ := h
  exact ⟨(a, b), ⟨hb, e, Nat.le_trans (zi_zl h1) hk, Nat.le_trans (zi_zl h3) hk⟩, qi_mono hk _ _ _ h2⟩
theorem q_v (q : Rat) {k k' : Nat} (hk : k ≤ k') : (T.Q q k).le (T.V q k') := (q_qi q hk).trans (qi_v (den_p' q) (rat_nd q) (Nat.le_refl _))
theorem q_v' (q : Rat) (k : Nat) : (T.Q q k).le (T.V q k) := q_v q (Nat.le_refl _)
theorem q_vq {q q' : Rat} {k k' : Nat} (e : q = q') (h : QB q' k') : (T.Q q k).le (T.V q' k') := (q_qb e h).trans (q_v' _ _)
theorem qi_v' {a b : Int} {k : Nat} (hb : 0 < b) : (T.Qi a b k).le (T.V ((a : Rat) / (b : Rat)) k) := qi_v hb rfl (Nat.le_refl _)
theorem cqi_v {p : Int × Int} {k : Nat} (hb : 0 < p.2) : ((cQi k).X p).le (T.V ((p.1 : Rat) / (p.2 : Rat)) k) := qi_v hb rfl (Nat.le_refl _)
theorem fn_v {P : Program} {f : FuncId} {q : Rat} {k : Nat} (As : List T) {Bs : List T} {Ei Eo : List (Nat × Ent)} {N : List Nat} {R : T} (h : ∀ p : Int × Int, 0 < p.2 → (p.1 : Rat) / (p.2 : Rat) = q → zl p.1 ≤ k → zl p.2 ≤ k → Fn P f (As ++ T.Qi p.1 p.2 k :: Bs) Ei Eo N R) : Fn P f (As ++ T.V q k :: Bs) Ei Eo N R := fn_ex fun p ⟨h1, h2, h3, h4⟩ => h p h1 h2 h3 h4
theorem QB.addv {a b c d : Int} {x y : Rat} {k l : Nat} (hb : 0 < b) (hd : 0 < d) (e : (a : Rat) / (b : Rat) = x) (e2 : (c : Rat) / (d : Rat) = y) (h1 : zl a ≤ k) (h2 : zl b ≤ k) (h3 : zl c ≤ l) (h4 : zl d ≤ l) : QB (x + y) (k + l + 1) := by
  rw [← e, ← e2, ← rat_addG (by omega) (by omega)]
  have h5 := zl_mul h1 h4
  have h6 := zl_mul h3 h2
  have := qb_div (zl_add_max h5 (by rw [Nat.add_comm]; exact h6)) (zl_mul h2 h4) (Int.mul_ne_zero (by omega) (by omega))
  exact QB.mono this (by omega)
theorem QB.subv {a b c d : Int} {x y : Rat} {k l : Nat} (hb : 0 < b) (hd : 0 < d) (e : (a : Rat) / (b : Rat) = x) (e2 : (c : Rat) / (d : Rat) = y) (h1 : zl a ≤ k) (h2 : zl b ≤ k) (h3 : zl c ≤ l) (h4 : zl d ≤ l) : QB (x - y) (k + l + 1) := by
  rw [← e, ← e2, ← rat_subG (by omega) (by omega)]
  have h5 := zl_mul h1 h4
  have h6 := zl_mul h3 h2
  have := qb_div (zl_sub_max h5 (by rw [Nat.add_comm]; exact h6)) (zl_mul h2 h4) (Int.mul_ne_zero (by omega) (by omega))
  exact QB.mono this (by omega)
theorem QB.mulv {a b c d : Int} {x y : Rat} {k l : Nat} (hb : 0 < b) (hd : 0 < d) (e : (a : Rat) / (b : Rat) = x) (e2 : (c : Rat) / (d : Rat) = y) (h1 : zl a ≤ k) (h2 : zl b ≤ k) (h3 : zl c ≤ l) (h4 : zl d ≤ l) : QB (x * y) (k + l) := by
  rw [← e, ← e2, ← rat_mulG]
  have := qb_div (zl_mul h1 h3) (zl_mul h2 h4) (Int.mul_ne_zero (show b ≠ 0 by omega) (show d ≠ 0 by omega))
  exact QB.mono this (by omega)
theorem rv_Add {x y : Rat} {k l : Nat} (hk : k ≤ 17179869184) (hl : l ≤ 17179869184) : Fn Tryz.prog 161 [T.V x k, T.V y l] [] [] [] (T.tup [T.Q (x + y) (k + l + 1), T.c (.int .i64 0)]) := fn_v [] fun p p1 p2 p3 p4 => fn_v [T.Qi p.1 p.2 k] (Bs := []) fun q q1 q2 q3 q4 => fn_out (rat_AddG p1 q1 hk hl) (tup_le ⟨q_qb (by rw [p2, q2]) (QB.addv p1 q1 p2 q2 p3 p4 q3 q4), .refl _, trivial⟩)

theorem rv_Sub {x y : Rat} {k l : Nat} (hk : k ≤ 17179869184) (hl : l ≤ 17179869184) : Fn Tryz.prog 140 [T.V x k, T.V y l] [] [] [] (T.tup [T.Q (x - y) (k + l + 1), T.c (.int .i64 0)]) := fn_v [] fun p p1 p2 p3 p4 => fn_v [T.Qi p.1 p.2 k] (Bs := []) fun q q1 q2 q3 q4 => fn_out (rat_SubG p1 q1 hk hl) (tup_le ⟨q_qb (by rw [p2, q2]) (QB.subv p1 q1 p2 q2 p3 p4 q3 q4), .refl _, trivial⟩)

theorem rv_Mul {x y : Rat} {k l : Nat} (hk : k ≤ 17179869184) (hl : l ≤ 17179869184) : Fn Tryz.prog 160 [T.V x k, T.V y l] [] [] [] (T.tup [T.Q (x * y) (k + l), T.c (.int .i64 0)]) := fn_v [] fun p p1 p2 p3 p4 => fn_v [T.Qi p.1 p.2 k] (Bs := []) fun q q1 q2 q3 q4 => fn_out (rat_MulG p1 q1 hk hl) (tup_le ⟨q_qb (by rw [p2, q2]) (QB.mulv p1 q1 p2 q2 p3 p4 q3 q4), .refl _, trivial⟩)

theorem r3v_Add {x y : Rat} {k l : Nat} (hk : k ≤ 17179869184) (hl : l ≤ 17179869184) : Fn Tryz.prog 74 [T.V x k, T.V y l] [] [] [] (T.Q (x + y) (k + l + 1)) := fn_v [] fun p p1 p2 p3 p4 => fn_v [T.Qi p.1 p.2 k] (Bs := []) fun q q1 q2 q3 q4 => fn_out (r03_AddG (by omega) (by omega) (by omega) (by omega)) (q_qb (by rw [p2, q2]) (QB.addv p1 q1 p2 q2 p3 p4 q3 q4))

theorem r3v_Sub {x y : Rat} {k l : Nat} (hk : k ≤ 17179869184) (hl : l ≤ 17179869184) : Fn Tryz.prog 73 [T.V x k, T.V y l] [] [] [] (T.Q (x - y) (k + l + 1)) := fn_v [] fun p p1 p2 p3 p4 => fn_v [T.Qi p.1 p.2 k] (Bs := []) fun q q1 q2 q3 q4 => fn_out (r03_SubG p1 q1 (by omega) (by omega)) (q_qb (by rw [p2, q2]) (QB.subv p1 q1 p2 q2 p3 p4 q3 q4))

theorem r03_MulG {a b c d : Int} {k l : Nat} (hb0 : b ≠ 0) (hd0 : d ≠ 0) (hk : k ≤ 68719476736) (hl : l ≤ 68719476736) : Fn Tryz.prog 75 [T.Qi a b k, T.Qi c d l] [] [] [] (T.Q ((a : Rat) / (b : Rat) * ((c : Rat) / (d : Rat))) (k + l + (k + l))) := by
  refine fn_of Tryz.func75 rfl (by show 2 ≤ 16; decide) fun cx hcx => ?_
  refine tri_sub (sl 0 rfl (sl 1 rfl sn)) en ?_
  have hbd0 : b * d ≠ 0 := Int.mul_ne_zero hb0 hd0
  refine tri_seq ?_
  refine tri_reg mixed hcx ?_ _ _
  refine bxs 10 rfl ?_
  refine bxs 11 rfl ?_
  refine nw 12 zeQ ?_
  refine ⟨by kernel_rfl, ?_⟩
  refine nx (sl 2 rfl (sl 3 rfl (sl 4 rfl sn))) (el 10 rfl (el 11 rfl (el 12 rfl en))) ?_
  refine tri_seq ?_
  refine tri_reg mixed hcx ?_ _ _
  refine fa rfl fNum 0 ?_
  refine ld rfl rfl tyZ rfl ?_
  refine fa rfl fNum 0 ?_
  refine ld rfl rfl tyZ rfl ?_
  refine ca rfl (h := r02_Mul (by omega) (by omega)) (hn := ?_)
  refine fa rfl fDen 2 ?_
  refine ld rfl rfl tyZ rfl ?_
  refine fa rfl fDen 2 ?_
  refine ld rfl rfl tyZ rfl ?_
  refine ca rfl (h := r02_Mul (by omega) (by omega)) (hn := ?_)
  refine ca rfl (h := r03_Make (by first | assumption | omega) (by omega) (by omega)) (hn := ?_)
  refine st rfl rfl rfl tyQ rfl ?_
  refine ⟨by kernel_rfl, ?_⟩
  refine nx (sl 4 rfl sn) (el 10 rfl (el 11 rfl (el 12 rfl en))) ?_
  refine tri_ret ?_
  repeat (first | refine pn_thenr ?_ | refine pn_blkr ?_)
  exact ret1 hcx rfl (rv_cell (c' := cx) (n := 0) rfl rfl tyQ rfl) (q_eq (rat_mulG _ _ _ _) (by omega)) en

theorem r3v_Mul {x y : Rat} {k l : Nat} (hk : k ≤ 17179869184) (hl : l ≤ 17179869184) : Fn Tryz.prog 75 [T.V x k, T.V y l] [] [] [] (T.Q (x * y) (k + l)) := fn_v [] fun p p1 p2 p3 p4 => fn_v [T.Qi p.1 p.2 k] (Bs := []) fun q q1 q2 q3 q4 => fn_out (r03_MulG (by omega) (by omega) (by omega) (by omega)) (q_qb (by rw [p2, q2]) (QB.mulv p1 q1 p2 q2 p3 p4 q3 q4))

section
variable {P : Program} {ops : Array Oper} {fin : List OpS → List (Nat × T) → List (Nat × Option Ent) → Prop} {r : List Oper} {H : List OpS} {g : List (Nat × T)} {E : List (Nat × Option Ent)} {o : Oper}
variable {t : Option Nat} {ty : TypeId} {ps : String} {af : Array Edge} {gd : Option (Nat × Bool)} {x y : Operand} {X Y : T} {e off m : Nat} {b : Bool} {l l' : List T} {et : TypeId}
variable {α : Type} {c : Cod α} {xs ys : List α}
/-- A call; fractions are told by what they are worth. -/
theorem cb {f : FuncId} {zs : Array Operand} {tys : Array TypeId} {As Bs : List T} (hA : envs g zs.toList = some As)
    (hl : LeL As Bs := by repeat (first | exact trivial | refine ⟨?_, ?_⟩ | exact q_v' _ _ | exact T.le.refl _ | exact qi_v' (by assumption) | exact cqi_v (by assumption) | exact IsZ.le | exact IsL2.le | exact IsL.le | exact q_le _ _ | assumption))
    (h : Fn P f Bs [] [] [] X) (hn : J P ops fin r (OpS.p X :: H) (putg t X g) E) (hen : Enters P f := by intro a w; kernel_rfl)
    (hg : GuardIs ops g ⟨t, .call ⟨.value (.func f), zs, tys⟩, ty, ps, af, gd⟩ true := by exact gd0) : J P ops fin (⟨t, .call ⟨.value (.func f), zs, tys⟩, ty, ps, af, gd⟩ :: r) H g E :=
  cl hA (fn_le h hl) hn hen hg
end
theorem box_q {et : TypeId} {q q' : Rat} {k k' : Nat} (h : (T.Q q k).le (T.Q q' k')) : (Ent.box et [T.Q q k]).le (Ent.box et [T.Q q' k']) := box_pack1 h
def nd (q : Rat) : Int × Int := (q.num, (q.den : Int))
end Go.Proofs.YtekghdfbhbhigaaGreat.V
/- A logic of calls: pointers that are none, and those that are not. -/
set_option linter.unusedVariables false
set_option linter.unusedSimpArgs false
namespace Go.Proofs.YtekghdfbhbhigaaGreat.V
open Go.RowKit Mt Nml
section
variable {P : Program} {ops : Array Oper} {fin : List OpS → List (Nat × T) → List (Nat × Option Ent) → Prop} {r : List Oper} {H : List OpS} {g : List (Nat × T)} {E : List (Nat × Option Ent)} {o : Oper}
variable {t : Option Nat} {ty : TypeId} {ps : String} {af : Array Edge} {gd : Option (Nat × Bool)} {x y : Operand} {X Y : T} {e off m : Nat} {b : Bool} {l l' : List T} {et : TypeId}
/-- A pointer that is not none. -/
class NN (X : T) : Prop where nn : ∀ {β u v}, X.rep β u v → ∃ a, v = .pointer (some a)
instance (X : T) : NN (T.fp X) := ⟨fun ⟨a, _, h, _⟩ => ⟨a, h⟩⟩
instance (e off : Nat) : NN (T.p e off) := ⟨fun ⟨b, _, h⟩ => ⟨_, h⟩⟩
theorem nk [hn' : NN X] (hX : envl g x = some X) (hn : J P ops fin r (OpS.p X :: H) (putg t X g) E) (hg : GuardIs ops g ⟨t, .nilCheck x, ty, ps, af, gd⟩ true := by exact gd0) : J P ops fin (⟨t, .nilCheck x, ty, ps, af, gd⟩ :: r) H g E :=
  j_val hg (ok_pure fun ρ β u w F hs he hH => by
    have h1 := he x (by simp [Op.operands]) _ hX
    obtain ⟨a, h2⟩ := hn'.nn h1
    exact ⟨ρ x, by simp [execOp, h2], h1⟩) hn
end
end Go.Proofs.YtekghdfbhbhigaaGreat.V
/- The nearest point's coefficients as plain sums: what stands along each star, and the way back. -/
set_option linter.unusedVariables false
set_option maxRecDepth 100000
namespace Go.Proofs.YtekghdfbhbhigaaGreat.V
open Go.RowKit Mt Nml
def muq (D : List Int) (L : List (List Int)) (i j : Nat) : Rat := (((L.getD i []).getD j 0 : Int) : Rat) / ((D.getD (j + 1) 0 : Int) : Rat)
def stq (D : List Int) (i : Nat) : Rat := ((D.getD (i + 1) 0 : Int) : Rat) / ((D.getD i 0 : Int) : Rat)
/-- What is left of a number of the point, after i rows. -/
def lq (b : List (List Int)) (c : List Rat) (d : Rat) (k : Nat) : Nat → Rat
  | 0 => d
  | i + 1 => lq b c d k i - c.getD i 0 * (((b.getD i []).getD k 0 : Int) : Rat)
def hq (b : List (List Int)) (c : List Rat) (ts : List (Int × Int)) (n : Nat) : Nat → Rat
  | 0 => 0
  | k + 1 => hq b c ts n k + lq b c (((ts.getD k (0, 0)).1 : Rat) / ((ts.getD k (0, 0)).2 : Rat)) k n * lq b c (((ts.getD k (0, 0)).1 : Rat) / ((ts.getD k (0, 0)).2 : Rat)) k n
end Go.Proofs.YtekghdfbhbhigaaGreat.V
/- Sizes by a common denominator. -/
set_option linter.unusedVariables false
set_option maxRecDepth 100000
namespace Go.Proofs.YtekghdfbhbhigaaGreat.V
open Go.RowKit Mt Nml
/-- Times d it is a whole number of at most A limbs. -/
def QC (q : Rat) (d : Int) (A : Nat) : Prop := ∃ n : Int, q * (d : Rat) = (n : Rat) ∧ zl n ≤ A
theorem QC.mono {q : Rat} {d : Int} {A B : Nat} (h : QC q d A) (hA : A ≤ B) : QC q d B := by
  obtain ⟨n, h1, h2⟩ := h
  exact ⟨n, h1, Nat.le_trans h2 hA⟩
theorem QC.add {q r : Rat} {d : Int} {A B : Nat} (h : QC q d A) (k : QC r d B) : QC (q + r) d (max A B + 1) := by
  obtain ⟨n, h1, h2⟩ := h
  obtain ⟨m, k1, k2⟩ := k
  exact ⟨n + m, by rw [Rat.add_mul, h1, k1, Rat.intCast_add], zl_add_max (Nat.le_trans h2 (Nat.le_max_left _ _)) (Nat.le_trans k2 (Nat.le_max_right _ _))⟩
theorem QC.neg {q : Rat} {d : Int} {A : Nat} (h : QC q d A) : QC (-q) d A := by
  obtain ⟨n, h1, h2⟩ := h
  exact ⟨-n, by rw [Rat.neg_mul, h1, Rat.intCast_neg], by unfold zl at h2 ⊢; rw [Int.natAbs_neg]; exact h2⟩
theorem QC.sub {q r : Rat} {d : Int} {A B : Nat} (h : QC q d A) (k : QC r d B) : QC (q - r) d (max A B + 1) := by
  rw [Rat.sub_eq_add_neg]
  exact h.add k.neg
theorem QC.mul {q r : Rat} {d e : Int} {A B : Nat} (h : QC q d A) (k : QC r e B) : QC (q * r) (d * e) (A + B) := by
  obtain ⟨n, h1, h2⟩ := h
  obtain ⟨m, k1, k2⟩ := k
  refine ⟨n * m, ?_, zl_mul h2 k2⟩
  rw [Rat.intCast_mul, Rat.intCast_mul, ← h1, ← k1]
  generalize (d : Rat) = x
  generalize (e : Rat) = y
  grind
theorem QC.up {q : Rat} {d : Int} {A : Nat} (h : QC q d A) (e : Int) : QC q (d * e) (A + zl e) := by
  obtain ⟨n, h1, h2⟩ := h
  refine ⟨n * e, ?_, zl_mul h2 (Nat.le_refl _)⟩
  rw [Rat.intCast_mul, Rat.intCast_mul, ← h1]
  generalize (d : Rat) = x
  generalize (e : Rat) = y
  grind
theorem QC.frac {a b : Int} (hb : b ≠ 0) : QC ((a : Rat) / (b : Rat)) b (zl a) := by
  have hne := rat_ne hb
  refine ⟨a, ?_, Nat.le_refl _⟩
  generalize (b : Rat) = y at hne
  grind
theorem QC.int (a : Int) : QC (a : Rat) 1 (zl a) := ⟨a, by rw [show ((1 : Int) : Rat) = 1 from rfl, Rat.mul_one], Nat.le_refl _⟩
end Go.Proofs.YtekghdfbhbhigaaGreat.V
/- The parts along the stars have a common denominator that grows by steps. -/
set_option linter.unusedVariables false
set_option maxRecDepth 100000
namespace Go.Proofs.YtekghdfbhbhigaaGreat.V
open Go.RowKit Mt Nml
end Go.Proofs.YtekghdfbhbhigaaGreat.V
/- The coefficients have a common denominator that grows by steps. -/
set_option linter.unusedVariables false
set_option maxRecDepth 100000
namespace Go.Proofs.YtekghdfbhbhigaaGreat.V
open Go.RowKit Mt Nml
end Go.Proofs.YtekghdfbhbhigaaGreat.V
/- The premises of the sizes: what divides the common denominator. -/
set_option linter.unusedVariables false
set_option maxRecDepth 100000
namespace Go.Proofs.YtekghdfbhbhigaaGreat.V
open Go.RowKit Mt Nml
end Go.Proofs.YtekghdfbhbhigaaGreat.V
/- What is said of rows, but for dependence. -/
set_option linter.unusedVariables false
set_option linter.unusedSimpArgs false
set_option maxRecDepth 100000
namespace Go.Proofs.YtekghdfbhbhigaaGreat.V
open Go.RowKit Mt Nml
/-- A truth value, whichever. -/
def T.tb : T := T.ex 1 false (fun _ : Bool => True) (fun s => T.c (.bool s)) (fun _ => ⟨rfl, rfl, rfl⟩)
theorem tb_of (s : Bool) : (T.c (.bool s)).le T.tb := fun β u v h => ⟨s, trivial, h⟩
theorem iv_abs {s : Bool} {xs : List Int} {z : Int} (h : Lim xs) (hz : z = iv s (val xs)) : val xs = ((z.natAbs : Nat) : Int) := by
  have := val_nonneg h
  subst hz
  unfold iv
  split <;> omega
theorem zi_parts {z : Int} {k : Nat} : (T.Zi z k).le (T.st [T.tb, T.L z.natAbs k]) := fun β u v ⟨i, ⟨h1, h2, h3⟩, cs, e, hc⟩ => ⟨cs, e, cells_le (l := [T.c (.bool i.1), T.l cU i.2]) hc ⟨tb_of i.1, l_L h1 (iv_abs h1 h2) h3, trivial⟩ rfl⟩
instance (z : Int) (k : Nat) : Sp (T.Zi z k) [T.tb, T.L z.natAbs k] := ⟨zi_parts⟩
instance (z : Int) (k : Nat) : Sp ((cZi k).X z) [T.tb, T.L z.natAbs k] := ⟨zi_parts⟩
/-- Rows that are too large: q, are the bits asked? -/
def BigB (b : List (List Int)) (q : Bool) : Prop := 12 < b.length ∨ (q = true ∧ 256 < matB b b.length) ∨ ∃ i, i < b.length ∧ 12 < (b.getD i []).length
/-- Rows of unlike lengths. -/
def BadB (b : List (List Int)) : Prop := ∃ i, i < b.length ∧ (b.getD i []).length ≠ (b.getD 0 []).length
/-- What is said of rows, but for dependence. -/
structure ShR (b : List (List Int)) (q : Bool) (r : Int) : Prop where
  big : BigB b q → r = 40
  nil : ¬ BigB b q → b.length = 0 → r = 41
  bad : ¬ BigB b q → b.length ≠ 0 → BadB b → r = 8
  ok : ¬ BigB b q → b.length ≠ 0 → ¬ BadB b → r = 0
theorem ShR.ex (b : List (List Int)) (q : Bool) : ∃ r, ShR b q r := by
  by_cases h1 : BigB b q
  · exact ⟨40, fun _ => rfl, fun h => absurd h1 h, fun h => absurd h1 h, fun h => absurd h1 h⟩
  · by_cases h2 : b.length = 0
    · exact ⟨41, fun h => absurd h h1, fun _ _ => rfl, fun _ h => absurd h2 h, fun _ h => absurd h2 h⟩
    · by_cases h3 : BadB b
      · exact ⟨8, fun h => absurd h h1, fun _ h => absurd h h2, fun _ _ _ => rfl, fun _ _ h => absurd h3 h⟩
      · exact ⟨0, fun h => absurd h h1, fun _ h => absurd h h2, fun _ _ h => absurd h h3, fun _ _ _ => rfl⟩
end Go.Proofs.YtekghdfbhbhigaaGreat.V
/- Determinants: the numbers that the data of rows are divided to are whole, and the data say what elimination says. -/
set_option linter.unusedVariables false
namespace Go.Proofs.YtekghdfbhbhigaaGreat.V
open Mt Nml
abbrev Rw := Nat → Rat
/-- The sum along a column, row by row. -/
def sm (f : List Rw → Rat) (c : Nat) : List Rw → List Rw → Rat
  | _, [] => 0
  | pre, r :: rest => r c * f (pre ++ rest) - sm f c (pre ++ [r]) rest
/-- The determinant of n rows from column c on. -/
def Dt : Nat → Nat → List Rw → Rat
  | 0, _, _ => 1
  | n + 1, c, l => sm (Dt n (c + 1)) c [] l
def addm (x : Rw) (q : Rat) (y : Rw) : Rw := fun j => x j + q * y j
def LinD (n : Nat) (f : List Rw → Rat) : Prop := ∀ A x y q B, A.length + B.length + 1 = n → f (A ++ addm x q y :: B) = f (A ++ x :: B) + q * f (A ++ y :: B)
def AltD (n : Nat) (f : List Rw → Rat) : Prop := ∀ A x y B, A.length + B.length + 2 = n → f (A ++ x :: y :: B) = -f (A ++ y :: x :: B)
theorem sm_lin_pre {n c : Nat} {f : List Rw → Rat} (hf : LinD n f) {P : List Rw} {x y : Rw} {q : Rat} : ∀ (rest Q : List Rw), P.length + Q.length + rest.length = n → sm f c (P ++ addm x q y :: Q) rest = sm f c (P ++ x :: Q) rest + q * sm f c (P ++ y :: Q) rest
  | [], Q, _ => by show (0 : Rat) = 0 + q * 0; grind
  | r :: rest, Q, h => by
    have e : ∀ z : Rw, sm f c (P ++ z :: Q) (r :: rest) = r c * f (P ++ z :: (Q ++ rest)) - sm f c (P ++ z :: (Q ++ [r])) rest := fun z => by
      show r c * f ((P ++ z :: Q) ++ rest) - sm f c ((P ++ z :: Q) ++ [r]) rest = _
      simp only [List.append_assoc, List.cons_append]
    simp only [List.length_cons] at h
    rw [e, e, e, hf P x y q (Q ++ rest) (by simp only [List.length_append]; omega), sm_lin_pre hf rest (Q ++ [r]) (by simp only [List.length_append, List.length_cons, List.length_nil]; omega)]
    grind
theorem sm_lin {n c : Nat} {f : List Rw → Rat} (hf : LinD n f) {x y : Rw} {q : Rat} {B : List Rw} : ∀ (A pre : List Rw), pre.length + A.length + B.length = n → sm f c pre (A ++ addm x q y :: B) = sm f c pre (A ++ x :: B) + q * sm f c pre (A ++ y :: B)
  | [], pre, h => by
    show (x c + q * y c) * f (pre ++ B) - sm f c (pre ++ [addm x q y]) B = (x c * f (pre ++ B) - sm f c (pre ++ [x]) B) + q * (y c * f (pre ++ B) - sm f c (pre ++ [y]) B)
    rw [sm_lin_pre hf B [] (by simpa using h)]
    grind
  | a :: A, pre, h => by
    simp only [List.length_cons] at h
    have e : ∀ z : Rw, sm f c pre ((a :: A) ++ z :: B) = a c * f ((pre ++ A) ++ z :: B) - sm f c (pre ++ [a]) (A ++ z :: B) := fun z => by
      show a c * f (pre ++ (A ++ z :: B)) - sm f c (pre ++ [a]) (A ++ z :: B) = _
      rw [← List.append_assoc]
    rw [e, e, e, hf (pre ++ A) x y q B (by simp only [List.length_append]; omega), sm_lin hf A (pre ++ [a]) (by simp only [List.length_append, List.length_cons, List.length_nil]; omega)]
    grind
theorem sm_alt_pre {n c : Nat} {f : List Rw → Rat} (hf : AltD n f) {P : List Rw} {x y : Rw} : ∀ (rest Q : List Rw), P.length + Q.length + 1 + rest.length = n → sm f c (P ++ x :: y :: Q) rest = -sm f c (P ++ y :: x :: Q) rest
  | [], Q, _ => by show (0 : Rat) = -0; grind
  | r :: rest, Q, h => by
    have e : ∀ z w : Rw, sm f c (P ++ z :: w :: Q) (r :: rest) = r c * f (P ++ z :: w :: (Q ++ rest)) - sm f c (P ++ z :: w :: (Q ++ [r])) rest := fun z w => by
      show r c * f ((P ++ z :: w :: Q) ++ rest) - sm f c ((P ++ z :: w :: Q) ++ [r]) rest = _
      simp only [List.append_assoc, List.cons_append]
    simp only [List.length_cons] at h
    rw [e, e, hf P x y (Q ++ rest) (by simp only [List.length_append]; omega), sm_alt_pre hf rest (Q ++ [r]) (by simp only [List.length_append, List.length_cons, List.length_nil]; omega)]
    grind
theorem sm_alt {n c : Nat} {f : List Rw → Rat} (hf : AltD n f) {x y : Rw} {B : List Rw} : ∀ (A pre : List Rw), pre.length + A.length + B.length + 1 = n → sm f c pre (A ++ x :: y :: B) = -sm f c pre (A ++ y :: x :: B)
  | [], pre, h => by
    have e : ∀ z w : Rw, sm f c pre (z :: w :: B) = z c * f (pre ++ w :: B) - (w c * f (pre ++ z :: B) - sm f c (pre ++ z :: w :: []) B) := fun z w => by
      show z c * f (pre ++ w :: B) - (w c * f ((pre ++ [z]) ++ B) - sm f c ((pre ++ [z]) ++ [w]) B) = _
      simp only [List.append_assoc, List.cons_append, List.nil_append]
    show sm f c pre (x :: y :: B) = -sm f c pre (y :: x :: B)
    rw [e, e, sm_alt_pre (x := x) (y := y) hf B [] (by simp only [List.length_nil] at h ⊢; omega)]
    grind
  | a :: A, pre, h => by
    simp only [List.length_cons] at h
    have e : ∀ z w : Rw, sm f c pre ((a :: A) ++ z :: w :: B) = a c * f ((pre ++ A) ++ z :: w :: B) - sm f c (pre ++ [a]) (A ++ z :: w :: B) := fun z w => by
      show a c * f (pre ++ (A ++ z :: w :: B)) - sm f c (pre ++ [a]) (A ++ z :: w :: B) = _
      rw [← List.append_assoc]
    rw [e, e, hf (pre ++ A) x y B (by simp only [List.length_append]; omega), sm_alt hf A (pre ++ [a]) (by simp only [List.length_append, List.length_cons, List.length_nil]; omega)]
    grind
theorem dt_lin : ∀ n c, LinD n (Dt n c)
  | 0, c => fun A x y q B h => absurd h (by omega)
  | n + 1, c => fun A x y q B h => sm_lin (dt_lin n (c + 1)) A [] (by simp only [List.length_nil]; omega)
theorem dt_alt : ∀ n c, AltD n (Dt n c)
  | 0, c => fun A x y B h => absurd h (by omega)
  | n + 1, c => fun A x y B h => sm_alt (dt_alt n (c + 1)) A [] (by simp only [List.length_nil]; omega)
theorem dup_zero {n : Nat} {f : List Rw → Rat} (hf : AltD n f) {x : Rw} {C : List Rw} : ∀ (B A : List Rw), A.length + B.length + C.length + 2 = n → f (A ++ x :: (B ++ x :: C)) = 0
  | [], A, h => by
    have := hf A x x C (by simp only [List.length_nil] at h; omega)
    show f (A ++ x :: x :: C) = 0
    grind
  | b :: B, A, h => by
    simp only [List.length_cons] at h
    have h1 := hf A x b (B ++ x :: C) (by simp only [List.length_append, List.length_cons]; omega)
    have h2 := dup_zero hf (x := x) (C := C) B (A ++ [b]) (by simp only [List.length_append, List.length_cons, List.length_nil]; omega)
    rw [List.append_assoc] at h2
    show f (A ++ x :: b :: (B ++ x :: C)) = 0
    rw [h1]
    show -f (A ++ ([b] ++ x :: (B ++ x :: C))) = 0
    rw [h2]
    grind
def eln (c : Nat) (x r : Rw) : Rw := addm r (-(r c / x c)) x
theorem eln_all {n c : Nat} {x : Rw} : ∀ (l A : List Rw), A.length + l.length + 1 = n → Dt n c (x :: (A ++ l)) = Dt n c (x :: (A ++ l.map (eln c x)))
  | [], A, _ => rfl
  | r :: l, A, h => by
    simp only [List.length_cons] at h
    have h1 := dt_lin n c (x :: A) r x (-(r c / x c)) l (by simp only [List.length_cons]; omega)
    have h2 := dup_zero (dt_alt n c) (x := x) (C := l) A [] (by simp only [List.length_nil]; omega)
    have h3 := eln_all (n := n) (c := c) (x := x) l (A ++ [eln c x r]) (by simp only [List.length_append, List.length_cons, List.length_nil]; omega)
    rw [List.append_assoc, List.append_assoc] at h3
    show Dt n c (x :: (A ++ r :: l)) = Dt n c (x :: (A ++ ([eln c x r] ++ l.map (eln c x))))
    rw [← h3]
    show Dt n c ((x :: A) ++ r :: l) = Dt n c ((x :: A) ++ eln c x r :: l)
    unfold eln
    rw [h1]
    have h2' : Dt n c ((x :: A) ++ x :: l) = 0 := h2
    rw [h2']
    grind
theorem sm_zero {f : List Rw → Rat} {c : Nat} : ∀ (l pre : List Rw), (∀ r ∈ l, r c = 0) → sm f c pre l = 0
  | [], _, _ => rfl
  | r :: l, pre, h => by
    show r c * f (pre ++ l) - sm f c (pre ++ [r]) l = 0
    rw [h r List.mem_cons_self, sm_zero l _ (fun q hq => h q (List.mem_cons_of_mem _ hq))]
    grind
theorem dt_step {n c : Nat} {x : Rw} {l : List Rw} (hx : x c ≠ 0) (hl : l.length = n) : Dt (n + 1) c (x :: l) = x c * Dt n (c + 1) (l.map (eln c x)) := by
  rw [show x :: l = x :: ([] ++ l) from rfl, eln_all l [] (by simp only [List.length_nil]; omega)]
  show x c * Dt n (c + 1) (l.map (eln c x)) - sm (Dt n (c + 1)) c [x] (l.map (eln c x)) = _
  rw [sm_zero _ _ (fun r hr => by
    obtain ⟨q, _, rfl⟩ := List.mem_map.1 hr
    show q c + -(q c / x c) * x c = 0
    rw [Rat.neg_mul, Rat.div_mul_cancel hx]
    grind)]
  grind
/-- The rows behind k steps of elimination. -/
def Mr (g : Nat → Rw) : Nat → Nat → Rw
  | 0, i => g i
  | k + 1, i => eln k (Mr g k k) (Mr g k i)
def pr (g : Nat → Rw) (t : Nat) : Nat → Rat
  | 0 => 1
  | d + 1 => Mr g t t t * pr g (t + 1) d
theorem pr_snoc (g : Nat → Rw) : ∀ d t, pr g t (d + 1) = pr g t d * Mr g (t + d) (t + d) (t + d)
  | 0, t => by show Mr g t t t * 1 = 1 * Mr g (t + 0) (t + 0) (t + 0); rw [Nat.add_zero]; grind
  | d + 1, t => by
    show Mr g t t t * pr g (t + 1) (d + 1) = Mr g t t t * pr g (t + 1) d * _
    rw [pr_snoc g d (t + 1), show t + 1 + d = t + (d + 1) by omega]
    grind
theorem det_M (g : Nat → Rw) (i : Nat) : ∀ d t, (∀ s, t ≤ s → s < t + d → Mr g s s s ≠ 0) → Dt (d + 1) t ((List.range' t d).map (Mr g t) ++ [Mr g t i]) = pr g t d * Mr g (t + d) i (t + d)
  | 0, t, _ => by
    show Mr g t i t * 1 - 0 = 1 * Mr g (t + 0) i (t + 0)
    rw [Nat.add_zero]; grind
  | d + 1, t, h => by
    rw [List.range'_succ, List.map_cons, List.cons_append, dt_step (h t (Nat.le_refl _) (by omega)) (by simp), List.map_append, List.map_map]
    have := det_M g i d (t + 1) (fun s h1 h2 => h s (by omega) (by omega))
    rw [show t + (d + 1) = t + 1 + d by omega]
    show Mr g t t t * Dt (d + 1) (t + 1) (List.map (Mr g (t + 1)) (List.range' (t + 1) d) ++ [Mr g (t + 1) i]) = Mr g t t t * pr g (t + 1) d * _
    rw [this]
    grind
def IsW (q : Rat) : Prop := ∃ z : Int, q = (z : Rat)
theorem IsW.mul {a b : Rat} (h : IsW a) (k : IsW b) : IsW (a * b) := by obtain ⟨x, rfl⟩ := h; obtain ⟨y, rfl⟩ := k; exact ⟨x * y, (Rat.intCast_mul x y).symm⟩
theorem IsW.sub {a b : Rat} (h : IsW a) (k : IsW b) : IsW (a - b) := by obtain ⟨x, rfl⟩ := h; obtain ⟨y, rfl⟩ := k; exact ⟨x - y, (Rat.intCast_sub x y).symm⟩
theorem IsW.one : IsW 1 := ⟨1, rfl⟩
theorem IsW.zero : IsW 0 := ⟨0, rfl⟩
theorem sm_int {f : List Rw → Rat} {c : Nat} (hf : ∀ l : List Rw, (∀ r ∈ l, ∀ j, IsW (r j)) → IsW (f l)) : ∀ (l pre : List Rw), (∀ r ∈ l, ∀ j, IsW (r j)) → (∀ r ∈ pre, ∀ j, IsW (r j)) → IsW (sm f c pre l)
  | [], _, _, _ => IsW.zero
  | r :: l, pre, h, hp => by
    refine ((h r List.mem_cons_self c).mul (hf _ fun q hq => ?_)).sub (sm_int hf l _ (fun q hq => h q (List.mem_cons_of_mem _ hq)) fun q hq => ?_)
    · rcases List.mem_append.1 hq with h1 | h1
      · exact hp q h1
      · exact h q (List.mem_cons_of_mem _ h1)
    · rcases List.mem_append.1 hq with h1 | h1
      · exact hp q h1
      · rw [List.mem_singleton.1 h1]; exact h r List.mem_cons_self
theorem dt_int : ∀ n c (l : List Rw), (∀ r ∈ l, ∀ j, IsW (r j)) → IsW (Dt n c l)
  | 0, _, _, _ => IsW.one
  | n + 1, c, l, h => sm_int (dt_int n (c + 1)) l [] h (fun r hr => by cases hr)
theorem mr_col (g : Nat → Rw) (k j : Nat) : ∀ t, t ≤ k → ∀ i c, Mr (fun s c => if c < k then g s c else g s j) t i c = Mr g t i (if c < k then c else j)
  | 0, _, i, c => by show (if c < k then g i c else g i j) = g i _; split <;> rfl
  | t + 1, h, i, c => by
    have ih := mr_col g k j t (by omega)
    show Mr _ t i c + -(Mr _ t i t / Mr _ t t t) * Mr _ t t c = Mr g t i _ + -(Mr g t i t / Mr g t t t) * Mr g t t _
    rw [ih i c, ih i t, ih t t, ih t c, if_pos (show t < k by omega)]
theorem pr_col (g : Nat → Rw) (k j : Nat) : ∀ d t, t + d ≤ k → pr (fun s c => if c < k then g s c else g s j) t d = pr g t d
  | 0, _, _ => rfl
  | d + 1, t, h => by
    show Mr _ t t t * pr _ (t + 1) d = _ * _
    rw [pr_col g k j d (t + 1) (by omega), mr_col g k j t (by omega) t t, if_pos (show t < k by omega)]
/-- The numerators are whole. -/
theorem minor_int {g : Nat → Rw} (hg : ∀ s c, IsW (g s c)) {k : Nat} (hp : ∀ s, s < k → Mr g s s s ≠ 0) (i j : Nat) : IsW (pr g 0 k * Mr g k i j) := by
  have h := det_M (fun s c => if c < k then g s c else g s j) i k 0 (fun s _ hs => by
    rw [mr_col g k j s (by omega), if_pos (show s < k by omega)]; exact hp s (by omega))
  rw [pr_col g k j k 0 (by omega), Nat.zero_add, mr_col g k j k (Nat.le_refl _), if_neg (Nat.lt_irrefl k)] at h
  rw [← h]
  refine dt_int _ _ _ fun r hr c => ?_
  have hz : ∀ s c, IsW ((fun (s c : Nat) => if c < k then g s c else g s j) s c) := fun s c => by show IsW (if c < k then g s c else g s j); split <;> exact hg _ _
  rcases List.mem_append.1 hr with h1 | h1
  · obtain ⟨q, _, rfl⟩ := List.mem_map.1 h1; exact hz q c
  · rw [List.mem_singleton.1 h1]; exact hz i c
theorem mr_symm {g : Nat → Rw} (hg : ∀ i j, g i j = g j i) : ∀ k i j, Mr g k i j = Mr g k j i
  | 0, i, j => hg i j
  | k + 1, i, j => by
    show Mr g k i j + -(Mr g k i k / Mr g k k k) * Mr g k k j = Mr g k j i + -(Mr g k j k / Mr g k k k) * Mr g k k i
    rw [mr_symm hg k i j, mr_symm hg k k j, mr_symm hg k k i, Rat.div_def, Rat.div_def]
    grind
/-- The products of rows, as fractions. -/
def gU (b : List (List Int)) (i j : Nat) : Int := dotU (b.getD i []) (b.getD j []) (b.getD i []).length
def gR (b : List (List Int)) (i : Nat) : Rw := fun j => ((gU b i j : Int) : Rat)
theorem dotU_comm (xs ys : List Int) : ∀ n, dotU xs ys n = dotU ys xs n
  | 0 => rfl
  | n + 1 => by show dotU xs ys n + _ = dotU ys xs n + _; rw [dotU_comm xs ys n, Int.mul_comm]
/-- Products behind the length are nought. -/
theorem dotU_more {xs ys : List Int} {m : Nat} (h : xs.length ≤ m) : ∀ d, dotU xs ys (m + d) = dotU xs ys m
  | 0 => rfl
  | d + 1 => by
    show dotU xs ys (m + d) + xs.getD (m + d) 0 * _ = _
    rw [dotU_more h d, show xs.getD (m + d) 0 = 0 from by rw [List.getD_eq_getElem?_getD, List.getElem?_eq_none (by omega)]; rfl, Int.zero_mul, Int.add_zero]
theorem gU_symm (b : List (List Int)) (i j : Nat) : gU b i j = gU b j i := by
  unfold gU
  rcases Nat.le_total (b.getD i []).length (b.getD j []).length with h | h
  · obtain ⟨d, hd⟩ := Nat.le.dest h
    rw [← hd, dotU_comm (b.getD j []), dotU_more (Nat.le_refl _) d]
  · obtain ⟨d, hd⟩ := Nat.le.dest h
    rw [← hd, dotU_comm, dotU_more (Nat.le_refl _) d]
theorem gR_symm (b : List (List Int)) (i j : Nat) : gR b i j = gR b j i := by show ((gU b i j : Int) : Rat) = _; rw [gU_symm]; rfl
theorem gR_int (b : List (List Int)) (i j : Nat) : IsW (gR b i j) := ⟨_, rfl⟩
/-- All pivots ahead of n are above nought. -/
def Ok (b : List (List Int)) (n : Nat) : Prop := ∀ k, k < n → 0 < Mr (gR b) k k k
abbrev pb (b : List (List Int)) (k : Nat) : Rat := pr (gR b) 0 k
theorem pb_succ (b : List (List Int)) (k : Nat) : pb b (k + 1) = pb b k * Mr (gR b) k k k := by have := pr_snoc (gR b) k 0; rw [Nat.zero_add] at this; exact this
theorem pb_pos {b : List (List Int)} {n : Nat} (h : Ok b n) : ∀ k, k ≤ n → 0 < pb b k
  | 0, _ => by show (0 : Rat) < 1; decide
  | k + 1, hk => by rw [pb_succ]; exact Rat.mul_pos (pb_pos h k (by omega)) (h k (by omega))
theorem rat_pos_ne {q : Rat} (h : 0 < q) : q ≠ 0 := fun e => by rw [e] at h; exact absurd h (Rat.lt_irrefl)
theorem ok_ne {b : List (List Int)} {n : Nat} (h : Ok b n) {k : Nat} (hk : k < n) : Mr (gR b) k k k ≠ 0 := rat_pos_ne (h k hk)
/-- What the data say, so far. -/
structure DI (b : List (List Int)) (i : Nat) (D : List Int) (L : List (List Int)) : Prop where
  lD : D.length = i + 1
  lL : L.length = i
  ok : Ok b i
  d : ∀ k, k ≤ i → ((D.getD k 0 : Int) : Rat) = pb b k
  lr : ∀ j, j < i → (L.getD j []).length = j
  l : ∀ j k, j < i → k < j → (((L.getD j []).getD k 0 : Int) : Rat) = pb b k * Mr (gR b) k j k
theorem fdiv_exact {x d z : Int} (hd : d ≠ 0) (h : x = d * z) : Int.fdiv x d = z := by subst h; exact Int.mul_fdiv_cancel_left z hd
theorem step_exact {b : List (List Int)} {D Lr row : List Int} {i j k : Nat} {u : Int} (hok : Ok b (k + 1)) (h0 : ((D.getD k 0 : Int) : Rat) = pb b k) (h1 : ((D.getD (k + 1) 0 : Int) : Rat) = pb b (k + 1)) (hu : ((u : Int) : Rat) = pb b k * Mr (gR b) k i j) (hr : ((row.getD k 0 : Int) : Rat) = pb b k * Mr (gR b) k i k) (hl : ((Lr.getD k 0 : Int) : Rat) = pb b k * Mr (gR b) k j k) : ((stepU D Lr row k u : Int) : Rat) = pb b (k + 1) * Mr (gR b) (k + 1) i j := by
  obtain ⟨z, hz⟩ := minor_int (gR_int b) (k := k + 1) (fun s hs => ok_ne hok hs) i j
  have hp := rat_pos_ne (pb_pos hok k (by omega))
  have hm := ok_ne hok (Nat.lt_succ_self k)
  have e : D.getD (k + 1) 0 * u - row.getD k 0 * Lr.getD k 0 = D.getD k 0 * z := by
    refine Rat.intCast_inj.1 ?_
    rw [Rat.intCast_sub, Rat.intCast_mul, Rat.intCast_mul, Rat.intCast_mul, h0, h1, hu, hr, hl, ← hz]
    show pb b (k + 1) * (pb b k * Mr (gR b) k i j) - pb b k * Mr (gR b) k i k * (pb b k * Mr (gR b) k j k) = pb b k * (pb b (k + 1) * (Mr (gR b) k i j + -(Mr (gR b) k i k / Mr (gR b) k k k) * Mr (gR b) k k j))
    rw [pb_succ, mr_symm (gR_symm b) k k j]
    generalize Mr (gR b) k k k = m at hm
    generalize Mr (gR b) k i k = x
    generalize Mr (gR b) k j k = y
    generalize pb b k = p at hp
    grind
  have hd : D.getD k 0 ≠ 0 := fun e0 => by rw [e0] at h0; exact hp h0.symm
  unfold stepU
  rw [fdiv_exact hd e, hz]
theorem red_exact {b : List (List Int)} {D : List Int} {L : List (List Int)} {row : List Int} {i j : Nat} (h : DI b i D L) (hji : j ≤ i) (hr : ∀ k, k < j → ((row.getD k 0 : Int) : Rat) = pb b k * Mr (gR b) k i k) : ∀ k, k ≤ j → ((redU D (pickL L row i j) row (gU b i j) k : Int) : Rat) = pb b k * Mr (gR b) k i j
  | 0, _ => by show ((gU b i j : Int) : Rat) = 1 * ((gU b i j : Int) : Rat); grind
  | k + 1, hk => by
    refine step_exact (fun s hs => h.ok s (by omega)) (h.d k (by omega)) (h.d (k + 1) (by omega)) (red_exact h hji hr k (by omega)) (hr k (by omega)) ?_
    unfold pickL
    split
    · exact h.l j k (by assumption) (by omega)
    · have : j = i := by omega
      subst this; exact hr k (by omega)
theorem row_len {b : List (List Int)} {D : List Int} {L : List (List Int)} {i : Nat} : ∀ j, (rowU b D L i j).length = j
  | 0 => rfl
  | j + 1 => by unfold rowU; rw [List.length_append, row_len j]; rfl
theorem row_exact {b : List (List Int)} {D : List Int} {L : List (List Int)} {i : Nat} (h : DI b i D L) : ∀ j, j ≤ i + 1 → ∀ k, k < j → (((rowU b D L i j).getD k 0 : Int) : Rat) = pb b k * Mr (gR b) k i k
  | 0, _, k, hk => absurd hk (Nat.not_lt_zero _)
  | j + 1, hj, k, hk => by
    unfold rowU
    rcases Nat.lt_or_ge k j with h1 | h1
    · rw [gl_lt (by rw [row_len]; exact h1)]; exact row_exact h j (by omega) k h1
    · rw [gl_eq (by rw [row_len]; omega), show k = j by omega]
      exact red_exact h (by omega) (fun k hk => row_exact h j (by omega) k hk) j (Nat.le_refl _)
theorem row_pos {b : List (List Int)} {D : List Int} {L : List (List Int)} {i : Nat} (h : DI b i D L) : 0 < (rowU b D L i (i + 1)).getD i 0 ↔ 0 < Mr (gR b) i i i := by
  have e := row_exact h (i + 1) (Nat.le_refl _) i (Nat.lt_succ_self i)
  have hp := pb_pos h.ok i (Nat.le_refl _)
  rw [← Rat.intCast_lt_intCast, e]
  show (0 : Rat) < _ ↔ _
  constructor
  · intro h1
    by_cases h2 : 0 < Mr (gR b) i i i
    · exact h2
    · exfalso
      replace h2 := Rat.not_lt.1 h2
      have := Rat.mul_le_mul_of_nonneg_left h2 (Rat.le_of_lt hp)
      rw [Rat.mul_zero] at this
      exact absurd h1 (Rat.not_lt.2 this)
  · exact Rat.mul_pos hp
theorem DI.zero (b : List (List Int)) : DI b 0 [1] [] := ⟨rfl, rfl, fun k hk => absurd hk (Nat.not_lt_zero _), fun k hk => by rw [show k = 0 by omega]; rfl, fun j hj => absurd hj (Nat.not_lt_zero _), fun j k hj => absurd hj (Nat.not_lt_zero _)⟩
theorem DI.step {b : List (List Int)} {D : List Int} {L : List (List Int)} {i : Nat} (h : DI b i D L) (hp : 0 < (rowU b D L i (i + 1)).getD i 0) : DI b (i + 1) (D ++ [(rowU b D L i (i + 1)).getD i 0]) (L ++ [(rowU b D L i (i + 1)).take i]) := by
  have hm := (row_pos h).1 hp
  have hr := row_exact h (i + 1) (Nat.le_refl _)
  refine ⟨by rw [List.length_append, h.lD]; rfl, by rw [List.length_append, h.lL]; rfl, fun k hk => ?_, fun k hk => ?_, fun j hj => ?_, fun j k hj hk => ?_⟩
  · rcases Nat.lt_or_ge k i with h1 | h1
    · exact h.ok k h1
    · rw [show k = i by omega]; exact hm
  · rcases Nat.lt_or_ge k (i + 1) with h1 | h1
    · rw [gl_lt (by rw [h.lD]; exact h1)]; exact h.d k (by omega)
    · rw [gl_eq (by rw [h.lD]; omega), show k = i + 1 by omega, hr i (Nat.lt_succ_self i), pb_succ]
  · rcases Nat.lt_or_ge j i with h1 | h1
    · rw [gl_lt (by rw [h.lL]; exact h1)]; exact h.lr j h1
    · rw [gl_eq (by rw [h.lL]; omega), List.length_take, row_len]; omega
  · rcases Nat.lt_or_ge j i with h1 | h1
    · rw [gl_lt (by rw [h.lL]; exact h1)]; exact h.l j k h1 hk
    · rw [gl_eq (by rw [h.lL]; omega), take_getD (by omega), hr k (by omega), show j = i by omega]
end Go.Proofs.YtekghdfbhbhigaaGreat.V
/- The data of rows, and what refuses them. -/
set_option linter.unusedVariables false
set_option linter.unusedSimpArgs false
set_option maxRecDepth 100000
namespace Go.Proofs.YtekghdfbhbhigaaGreat.V
open Go.RowKit Mt Nml
end Go.Proofs.YtekghdfbhbhigaaGreat.V
/- The document: rows made orthogonal. -/
set_option linter.unusedVariables false
set_option linter.unusedSimpArgs false
set_option maxRecDepth 100000
namespace Go.Proofs.YtekghdfbhbhigaaGreat.V
open Go.RowKit Mt Nml
/-- The coefficients and squared lengths of rows, as fractions. -/
def mR (b : List (List Int)) (i j : Nat) : Rat := Mr (gR b) j i j / Mr (gR b) j j j
def sR (b : List (List Int)) (i : Nat) : Rat := Mr (gR b) i i i
theorem rng_at {α : Type} {f : Nat → α} {d : α} {n k : Nat} (h : k < n) : ((List.range n).map f).getD k d = f k := by
  rw [List.getD_eq_getElem?_getD, List.getElem?_map, List.getElem?_range h]; rfl
end Go.Proofs.YtekghdfbhbhigaaGreat.V
/- The data of rows: how large, and that the squared length of a sum of rows is what the data say. -/
set_option linter.unusedVariables false
namespace Go.Proofs.YtekghdfbhbhigaaGreat.V
open Mt Nml
theorem RI.row {b : List (List Int)} {D : List Int} {L : List (List Int)} {S i : Nat} (hB : BI S i D L) (hS : ∀ j, j ≤ i → zl (gU b i j) ≤ S) : ∀ j, j ≤ i + 1 → RI S j (rowU b D L i j)
  | 0, _ => RI.zero S
  | j + 1, hj => by
    have h := RI.row hB hS j (by omega)
    unfold rowU
    exact h.snoc (red_bd hB h (by omega) (hS j (by omega)) (Nat.le_refl _))
theorem Ok.mono {b : List (List Int)} {m n : Nat} (h : Ok b n) (hm : m ≤ n) : Ok b m := fun k hk => h k (by omega)
/-- Sums of fractions. -/
def sumN (f : Nat → Rat) : Nat → Rat
  | 0 => 0
  | n + 1 => sumN f n + f n
theorem sum_congr {f g : Nat → Rat} : ∀ {n : Nat}, (∀ i, i < n → f i = g i) → sumN f n = sumN g n
  | 0, _ => rfl
  | n + 1, h => by show sumN f n + f n = sumN g n + g n; rw [sum_congr fun i hi => h i (by omega), h n (by omega)]
theorem sum_add (f g : Nat → Rat) : ∀ n, sumN (fun i => f i + g i) n = sumN f n + sumN g n
  | 0 => by show (0 : Rat) = 0 + 0; grind
  | n + 1 => by show sumN _ n + (f n + g n) = sumN f n + f n + (sumN g n + g n); rw [sum_add f g n]; grind
theorem sum_mul (c : Rat) (f : Nat → Rat) : ∀ n, sumN (fun i => c * f i) n = c * sumN f n
  | 0 => by show (0 : Rat) = c * 0; grind
  | n + 1 => by show sumN _ n + c * f n = c * (sumN f n + f n); rw [sum_mul c f n]; grind
theorem sum_zero {f : Nat → Rat} {n : Nat} (h : ∀ i, i < n → f i = 0) : sumN f n = 0 := by
  rw [sum_congr (g := fun _ => 0 * 0) fun i hi => by rw [h i hi]; grind]
  rw [sum_mul]; grind
theorem sum_swap (f : Nat → Nat → Rat) (m : Nat) : ∀ n, sumN (fun i => sumN (f i) m) n = sumN (fun j => sumN (fun i => f i j) n) m
  | 0 => by show (0 : Rat) = sumN (fun _ => 0) m; exact (sum_zero fun _ _ => rfl).symm
  | n + 1 => by
    show sumN _ n + sumN (f n) m = sumN (fun j => sumN (fun i => f i j) n + f n j) m
    rw [sum_swap f m n, sum_add]
/-- What elimination has done away with. -/
theorem mr_zero {b : List (List Int)} {n : Nat} (h : Ok b n) : ∀ k, k ≤ n → ∀ j, j < k → ∀ c, Mr (gR b) k j c = 0
  | 0, _, j, hj, c => absurd hj (Nat.not_lt_zero _)
  | k + 1, hk, j, hj, c => by
    show Mr (gR b) k j c + -(Mr (gR b) k j k / Mr (gR b) k k k) * Mr (gR b) k k c = 0
    have hm := ok_ne h (show k < n by omega)
    rcases Nat.lt_or_eq_of_le (Nat.le_of_lt_succ hj) with h1 | h1
    · rw [mr_zero h k (by omega) j h1 c, mr_zero h k (by omega) j h1 k]
      rw [Rat.div_def]; grind
    · subst h1
      generalize Mr (gR b) j j j = m at hm
      generalize Mr (gR b) j j c = x
      grind
theorem DI.mu {b : List (List Int)} {n : Nat} {D : List Int} {L : List (List Int)} (h : DI b n D L) {i j : Nat} (hi : i < n) (hj : j < i) : (((L.getD i []).getD j 0 : Int) : Rat) / ((D.getD (j + 1) 0 : Int) : Rat) = mR b i j := by
  have hp := rat_pos_ne (pb_pos h.ok j (by omega))
  have hm := ok_ne h.ok (show j < n by omega)
  rw [h.d (j + 1) (by omega), h.l i j hi hj, pb_succ]
  unfold mR
  generalize Mr (gR b) j j j = m at hm
  generalize Mr (gR b) j i j = x
  generalize pb b j = p at hp
  grind
/-! ### sums of rows -/
theorem DI.good {b : List (List Int)} {n : Nat} {D : List Int} {L : List (List Int)} (h : DI b n D L) (hn : 0 < n) : GoodP D L := by
  have hpos : ∀ k, k ≤ n → 0 < D.getD k 0 := fun k hk => by
    have := pb_pos h.ok k hk
    rw [← h.d k hk] at this
    exact Rat.intCast_pos.1 this
  refine ⟨by rw [h.lL]; exact hn, by rw [h.lD, h.lL], ?_, fun i hi => ?_⟩
  · have := h.d 0 (Nat.zero_le _)
    exact Rat.intCast_inj.1 (this.trans rfl)
  · rw [h.lL] at hi
    exact ⟨h.lr i hi, hpos (i + 1) (by omega)⟩
end Go.Proofs.YtekghdfbhbhigaaGreat.V
/- The nearest point: the normal equations, and how far it is. -/
set_option linter.unusedVariables false
set_option maxRecDepth 100000
namespace Go.Proofs.YtekghdfbhbhigaaGreat.V
open Go.RowKit Mt Nml
/-- The coefficient of a row along a star, whichever. -/
def Wq (b : List (List Int)) (i l : Nat) : Rat := Mr (gR b) l i l / Mr (gR b) l l l
theorem gram_step {b : List (List Int)} {n : Nat} (h : Ok b n) (i m : Nat) : ∀ k, k ≤ n → gR b i m = sumN (fun l => Wq b i l * (Wq b m l * sR b l)) k + Mr (gR b) k i m
  | 0, _ => by show gR b i m = (0 : Rat) + gR b i m; grind
  | k + 1, hk => by
    have hm := ok_ne h (show k < n by omega)
    rw [gram_step h i m k (by omega)]
    show sumN _ k + Mr (gR b) k i m = sumN _ k + Wq b i k * (Wq b m k * sR b k) + (Mr (gR b) k i m + -(Mr (gR b) k i k / Mr (gR b) k k k) * Mr (gR b) k k m)
    rw [mr_symm (gR_symm b) k k m]
    unfold Wq sR
    generalize Mr (gR b) k k k = q at hm
    generalize Mr (gR b) k i k = x
    generalize Mr (gR b) k m k = y
    grind
theorem gram_W {b : List (List Int)} {n : Nat} (h : Ok b n) {i : Nat} (hi : i < n) (m : Nat) : gR b i m = sumN (fun l => Wq b i l * (Wq b m l * sR b l)) n := by
  rw [gram_step h i m n (Nat.le_refl _), mr_zero h n (Nat.le_refl _) i hi m]
  grind
/-- What is known of the coefficients: Y along the stars, C along the rows. -/
structure Near (b : List (List Int)) (n : Nat) (a Y C : Nat → Rat) : Prop where
  ok : Ok b n
  y : ∀ i, i < n → a i = sumN (fun l => Wq b i l * sR b l * Y l) n
  c : ∀ l, l < n → Y l = sumN (fun i => C i * Wq b i l) n
/-- The normal equations. -/
theorem Near.normal {b : List (List Int)} {n : Nat} {a Y C : Nat → Rat} (h : Near b n a Y C) {m : Nat} (hm : m < n) : sumN (fun i => C i * gR b i m) n = a m := by
  rw [sum_congr (g := fun i => sumN (fun l => C i * (Wq b i l * (Wq b m l * sR b l))) n) (fun i hi => by rw [gram_W h.ok hi m, sum_mul]), sum_swap, h.y m hm]
  refine sum_congr fun l hl => ?_
  rw [sum_congr (g := fun i => (Wq b m l * sR b l) * (C i * Wq b i l)) (fun i _ => by grind), sum_mul, ← h.c l hl]
/-- How much of the point lies in the span. -/
theorem Near.part {b : List (List Int)} {n : Nat} {a Y C : Nat → Rat} (h : Near b n a Y C) : sumN (fun i => C i * a i) n = sumN (fun l => Y l * Y l * sR b l) n := by
  rw [sum_congr (g := fun i => sumN (fun l => C i * (Wq b i l * sR b l * Y l)) n) (fun i hi => by rw [h.y i hi, sum_mul]), sum_swap]
  refine sum_congr fun l hl => ?_
  rw [sum_congr (g := fun i => (sR b l * Y l) * (C i * Wq b i l)) (fun i _ => by grind), sum_mul, ← h.c l hl]
  grind
/-! ### columns -/
abbrev tq (ts : List (Int × Int)) (k : Nat) : Rat := ((ts.getD k (0, 0)).1 : Rat) / ((ts.getD k (0, 0)).2 : Rat)
/-- The product of what is left and a row, term by term. -/
def nq (b : List (List Int)) (c : List Rat) (ts : List (Int × Int)) (n i : Nat) : Nat → Rat
  | 0 => 0
  | k + 1 => nq b c ts n i k + lq b c (tq ts k) k n * (((b.getD i []).getD k 0 : Int) : Rat)
end Go.Proofs.YtekghdfbhbhigaaGreat.V
/- A search tree: centres and parts as plain sums, and how large they are. -/
set_option linter.unusedVariables false
set_option maxRecDepth 100000
namespace Go.Proofs.YtekghdfbhbhigaaGreat.V
open Go.RowKit Mt Nml
/-- The target's coefficient of a row. -/
def aqT (ts : List (Int × Int)) (i : Nat) : Rat := if ts.length = 0 then 0 else tq ts i
/-- The centre of a suffix, after k of its numbers: i is the row, m the last row. -/
def ctT (D : List Int) (L : List (List Int)) (ts : List (Int × Int)) (s : List Int) (m i : Nat) : Nat → Rat
  | 0 => aqT ts i
  | k + 1 => ctT D L ts s m i k - (((s.getD k 0 : Int) : Rat) - aqT ts (m - k)) * muq D L (m - k) i
/-- The part of a suffix's first k numbers. -/
def ptT (D : List Int) (L : List (List Int)) (ts : List (Int × Int)) (s : List Int) (m : Nat) : Nat → Rat
  | 0 => 0
  | k + 1 => ptT D L ts s m k + (((s.getD k 0 : Int) : Rat) - ctT D L ts s m (m - k) k) * (((s.getD k 0 : Int) : Rat) - ctT D L ts s m (m - k) k) * stq D (m - k)
theorem ctT_ext {D : List Int} {L : List (List Int)} {ts : List (Int × Int)} {s s' : List Int} {m i : Nat} : ∀ {k : Nat}, (∀ j, j < k → s.getD j 0 = s'.getD j 0) → ctT D L ts s m i k = ctT D L ts s' m i k
  | 0, _ => rfl
  | k + 1, h => by
    show ctT D L ts s m i k - _ = ctT D L ts s' m i k - _
    rw [ctT_ext (k := k) fun j hj => h j (by omega), h k (by omega)]
theorem ptT_ext {D : List Int} {L : List (List Int)} {ts : List (Int × Int)} {s s' : List Int} {m : Nat} : ∀ {k : Nat}, (∀ j, j < k → s.getD j 0 = s'.getD j 0) → ptT D L ts s m k = ptT D L ts s' m k
  | 0, _ => rfl
  | k + 1, h => by
    show ptT D L ts s m k + _ = ptT D L ts s' m k + _
    rw [ptT_ext (k := k) fun j hj => h j (by omega), h k (by omega), ctT_ext (k := k) fun j hj => h j (by omega)]
/-! ### sizes -/
theorem QB.nd {q : Rat} {k : Nat} (h : QB q k) : 0 < ((q.den : Int)) ∧ ((q.num : Rat) / (((q.den : Int)) : Rat) = q) ∧ zl q.num ≤ k ∧ zl (q.den : Int) ≤ k := ⟨den_p' q, rat_nd q, h.1, h.2⟩
theorem QB.add2 {x y : Rat} {k l : Nat} (h : QB x k) (h' : QB y l) : QB (x + y) (k + l + 1) := QB.addv (QB.nd h).1 (QB.nd h').1 (QB.nd h).2.1 (QB.nd h').2.1 h.1 h.2 h'.1 h'.2
theorem QB.sub2 {x y : Rat} {k l : Nat} (h : QB x k) (h' : QB y l) : QB (x - y) (k + l + 1) := QB.subv (QB.nd h).1 (QB.nd h').1 (QB.nd h).2.1 (QB.nd h').2.1 h.1 h.2 h'.1 h'.2
theorem QB.mul2 {x y : Rat} {k l : Nat} (h : QB x k) (h' : QB y l) : QB (x * y) (k + l) := QB.mulv (QB.nd h).1 (QB.nd h').1 (QB.nd h).2.1 (QB.nd h').2.1 h.1 h.2 h'.1 h'.2
theorem QB.int {z : Int} {k : Nat} (h : zl z ≤ k) : QB (z : Rat) (k + 1) := by
  have := qb_div h zl_one (by decide : (1 : Int) ≠ 0)
  rw [show (z : Rat) / ((1 : Int) : Rat) = (z : Rat) from by rw [show ((1 : Int) : Rat) = 1 from rfl]; grind] at this
  exact QB.mono this (by omega)
theorem QB.frac {a b : Int} {k : Nat} (h : zl a ≤ k) (h' : zl b ≤ k) (hb : b ≠ 0) : QB ((a : Rat) / (b : Rat)) k := by
  have := qb_div h h' hb
  rwa [Nat.max_self] at this
/-- What is known of a tree: as many rows as m + 1, numbers of at most k limbs. -/
structure TrS (D : List Int) (L : List (List Int)) (ts : List (Int × Int)) (n k : Nat) : Prop where
  good : GoodP D L
  len : L.length = n
  twelve : n ≤ 12
  tl : ts.length = 0 ∨ ts.length = n
  tp : ∀ i, i < ts.length → 0 < (ts.getD i (0, 0)).2
  zt : ∀ i, i < ts.length → zl (ts.getD i (0, 0)).1 ≤ k ∧ zl (ts.getD i (0, 0)).2 ≤ k
  zD : ∀ j, zl (D.getD j 0) ≤ k
  zL : ∀ i j, zl ((L.getD j []).getD i 0) ≤ k
  hk : k ≤ 16777216
namespace TrS
variable {D : List Int} {L : List (List Int)} {ts : List (Int × Int)} {n k : Nat} (h : TrS D L ts n k)
include h
theorem pos : 0 < n := by have := h.good.1; have := h.len; omega
theorem dp {i : Nat} (hi : i ≤ n) : 0 < D.getD i 0 := h.good.pos (by rw [h.len]; exact hi)
theorem a {i : Nat} (hi : i < n) : QB (aqT ts i) (k + 2) := by
  unfold aqT
  split
  · exact QB.mono (QB.int (z := 0) (k := 0) (by rw [zl_zero]; exact Nat.le_refl _)) (by omega)
  · rename_i h0
    rcases h.tl with h1 | h1
    · exact absurd h1 h0
    · have := h.tp i (by omega)
      exact QB.mono (QB.frac (h.zt i (by omega)).1 (h.zt i (by omega)).2 (by omega)) (by omega)
theorem mu {i j : Nat} (hi : i ≤ n) (hj : j < i) : QB (muq D L i j) k := QB.frac (h.zL _ _) (h.zD _) (by have := h.dp (i := j + 1) (by omega); omega)
theorem st {i : Nat} (hi : i < n) : QB (stq D i) k := QB.frac (h.zD _) (h.zD _) (by have := h.dp (i := i) (by omega); omega)
theorem ct {s : List Int} (hs : ∀ j, zl (s.getD j 0) ≤ k) {m i : Nat} (hm : m + 1 = n) : ∀ {c : Nat}, i + c ≤ m → QB (ctT D L ts s m i c) (k + 2 + c * (3 * k + 6))
  | 0, hc => QB.mono (h.a (by omega)) (by omega)
  | c + 1, hc => by
    have h1 := ct hs (m := m) (i := i) hm (c := c) (by omega)
    have h2 := QB.mul2 (QB.sub2 (QB.int (hs c)) (h.a (i := m - c) (by omega))) (h.mu (i := m - c) (j := i) (by omega) (by omega))
    have h3 := QB.sub2 h1 h2
    refine QB.mono h3 ?_
    have e : (c + 1) * (3 * k + 6) = c * (3 * k + 6) + (3 * k + 6) := Nat.succ_mul _ _
    omega
/-- One size for all centres. -/
theorem ct' {s : List Int} (hs : ∀ j, zl (s.getD j 0) ≤ k) {m i c : Nat} (hm : m + 1 = n) (hc : i + c ≤ m) : QB (ctT D L ts s m i c) 600000000 := by
  have h1 := h.ct hs hm hc
  have h2 := h.hk
  have h3 := h.twelve
  have h4 : c * (3 * k + 6) ≤ 11 * 50331654 := Nat.mul_le_mul (by omega) (by omega)
  exact QB.mono h1 (by omega)
theorem pt {s : List Int} (hs : ∀ j, zl (s.getD j 0) ≤ k) {m : Nat} (hm : m + 1 = n) : ∀ {c : Nat}, c ≤ n → QB (ptT D L ts s m c) (1 + c * 1250331653)
  | 0, hc => QB.int (z := 0) (k := 0) (by rw [zl_zero]; exact Nat.le_refl _)
  | c + 1, hc => by
    have h1 := pt hs hm (c := c) (by omega)
    have h2 := QB.sub2 (QB.int (hs c)) (h.ct' hs (m := m) (i := m - c) (c := c) hm (by omega))
    have h3 := QB.add2 h1 (QB.mul2 (QB.mul2 h2 h2) (h.st (i := m - c) (by omega)))
    have h4 := h.hk
    refine QB.mono h3 ?_
    have e : (c + 1) * 1250331653 = c * 1250331653 + 1250331653 := Nat.succ_mul _ _
    omega
/-- One size for all parts. -/
theorem pt' {s : List Int} (hs : ∀ j, zl (s.getD j 0) ≤ k) {m c : Nat} (hm : m + 1 = n) (hc : c ≤ n) : QB (ptT D L ts s m c) 15100000000 := by
  have h3 := h.twelve
  have h4 : c * 1250331653 ≤ 12 * 1250331653 := Nat.mul_le_mul_right _ (by omega)
  exact QB.mono (h.pt hs hm hc) (by omega)
end TrS
/-! ### a leaf's part is a squared length -/
end Go.Proofs.YtekghdfbhbhigaaGreat.V
/- What a basis is; sums of rows. -/
set_option linter.unusedVariables false
set_option linter.unusedSimpArgs false
set_option maxRecDepth 100000
namespace Go.Proofs.YtekghdfbhbhigaaGreat.V
open Go.RowKit Mt Nml
end Go.Proofs.YtekghdfbhbhigaaGreat.V
/- The law of the lengths. -/
set_option linter.unusedVariables false
set_option linter.unusedSimpArgs false
set_option maxRecDepth 100000
namespace Go.Proofs.YtekghdfbhbhigaaGreat.V
open Go.RowKit Mt Nml
theorem shr_zero {b : List (List Int)} {q : Bool} (h : ShR b q 0) : ¬ BigB b q ∧ b.length ≠ 0 ∧ ¬ BadB b := by
  have h1 : ¬ BigB b q := fun k => by have := h.big k; omega
  have h2 : b.length ≠ 0 := fun k => by have := h.nil h1 k; omega
  exact ⟨h1, h2, fun k => by have := h.bad h1 h2 k; omega⟩
end Go.Proofs.YtekghdfbhbhigaaGreat.V
/- A filter over data and a target: norms. -/
set_option linter.unusedVariables false
set_option linter.unusedSimpArgs false
set_option maxRecDepth 100000
namespace Go.Proofs.YtekghdfbhbhigaaGreat.V
open Go.RowKit Mt Nml
theorem take_snoc {α : Type} {l : List α} {i : Nat} {d : α} (h : i < l.length) : l.take i ++ [l.getD i d] = l.take (i + 1) := by
  rw [List.getD_eq_getElem?_getD, List.getElem?_eq_getElem h, Option.getD_some, List.take_append_getElem h]
/-- -1, 0, 1: below, the same, above. -/
def cq (x y : Rat) : Int := if x < y then -1 else if y < x then 1 else 0
theorem sgnc_q {a b c d : Int} {x y : Rat} (hb : 0 < b) (hd : 0 < d) (e : (a : Rat) / (b : Rat) = x) (e2 : (c : Rat) / (d : Rat) = y) : sgnc (a * d) (c * b) = cq x y := by
  have hbr : (0 : Rat) < (b : Rat) := Rat.intCast_pos.2 hb
  have hdr : (0 : Rat) < (d : Rat) := Rat.intCast_pos.2 hd
  have h1 : x < y ↔ a * d < c * b := by
    rw [← e, ← e2, Rat.div_lt_iff hbr, Rat.div_def, Rat.mul_assoc, Rat.mul_comm ((d : Rat)⁻¹), ← Rat.mul_assoc, ← Rat.div_def, Rat.lt_div_iff hdr, ← Rat.intCast_mul, ← Rat.intCast_mul, Rat.intCast_lt_intCast]
  have h2 : y < x ↔ c * b < a * d := by
    rw [← e, ← e2, Rat.div_lt_iff hdr, Rat.div_def, Rat.mul_assoc, Rat.mul_comm ((b : Rat)⁻¹), ← Rat.mul_assoc, ← Rat.div_def, Rat.lt_div_iff hbr, ← Rat.intCast_mul, ← Rat.intCast_mul, Rat.intCast_lt_intCast]
  unfold cq sgnc
  simp only [h1, h2]
theorem rv_Cmp {x y : Rat} {k l : Nat} (hk : k ≤ 17179869184) (hl : l ≤ 17179869184) : Fn Tryz.prog 120 [T.V x k, T.V y l] [] [] [] (T.tup [T.c (.int .i64 (cq x y)), T.c (.int .i64 0)]) := fn_v [] fun p p1 p2 p3 p4 => fn_v [T.Qi p.1 p.2 k] (Bs := []) fun q q1 q2 q3 q4 => fn_out (rat_CmpG p1 q1 hk hl) (tup_le ⟨ci (sgnc_q p1 q1 p2 q2), .refl _, trivial⟩)

end Go.Proofs.YtekghdfbhbhigaaGreat.V
/- Whole numbers by how near they are to a fraction: the nearest, the k-th, the one behind another one. -/
set_option linter.unusedVariables false
set_option maxRecDepth 100000
namespace Go.Proofs.YtekghdfbhbhigaaGreat.V
open Go.RowKit Mt Nml
theorem rle_div {z a b : Int} (hb : 0 < b) : (z : Rat) ≤ (a : Rat) / (b : Rat) ↔ z * b ≤ a := by
  have hbr : (0 : Rat) < (b : Rat) := Rat.intCast_pos.2 hb
  rw [← Rat.not_lt, Rat.div_lt_iff hbr, ← Rat.intCast_mul, Rat.intCast_lt_intCast, Int.not_lt]
/-- A fraction rounded down. -/
def flo (q : Rat) : Int := Int.fdiv q.num (q.den : Int)
theorem flo_iff {q : Rat} {z : Int} : flo q = z ↔ (z : Rat) ≤ q ∧ q < (z : Rat) + 1 := by
  have hd : 0 < ((q.den : Int)) := den_p' q
  have hdr : (0 : Rat) < ((q.den : Int) : Rat) := Rat.intCast_pos.2 hd
  have e := rat_nd q
  have h1 : (z : Rat) ≤ q ↔ z * (q.den : Int) ≤ q.num := by
    conv => lhs; rw [← e]
    exact rle_div hd
  have h2 : q < (z : Rat) + 1 ↔ q.num < (z + 1) * (q.den : Int) := by
    conv => lhs; rw [← e]
    rw [Rat.div_lt_iff hdr, show ((z : Rat) + 1) = ((z + 1 : Int) : Rat) from by rw [Rat.intCast_add]; rfl, ← Rat.intCast_mul, Rat.intCast_lt_intCast]
  rw [h1, h2]
  unfold flo
  rw [Int.fdiv_eq_ediv_of_nonneg _ (by omega)]
  constructor
  · rintro rfl
    exact ⟨Int.ediv_mul_le _ (by omega), Int.lt_ediv_add_one_mul_self _ hd⟩
  · rintro ⟨k1, k2⟩
    have h3 := Int.le_ediv_of_mul_le hd k1
    have h4 := Int.ediv_lt_of_lt_mul hd k2
    omega
theorem flo_frac {a b : Int} (hb : 0 < b) : flo ((a : Rat) / (b : Rat)) = Int.fdiv a b := by
  have hbr : (0 : Rat) < (b : Rat) := Rat.intCast_pos.2 hb
  rw [flo_iff, Int.fdiv_eq_ediv_of_nonneg _ (by omega)]
  refine ⟨?_, ?_⟩
  · rw [rle_div hb]
    exact Int.ediv_mul_le _ (by omega)
  · rw [Rat.div_lt_iff hbr, show (((a / b : Int) : Rat) + 1) = ((a / b + 1 : Int) : Rat) from by rw [Rat.intCast_add]; rfl, ← Rat.intCast_mul, Rat.intCast_lt_intCast]
    exact Int.lt_ediv_add_one_mul_self _ hb
/-- The nearest one, of two the greater one. -/
def nea (c : Rat) : Int := flo (c + 1 / 2)
theorem nea_b (c : Rat) : ((nea c : Int) : Rat) ≤ c + 1 / 2 ∧ c < ((nea c : Int) : Rat) + 1 / 2 := by
  have := flo_iff.1 (show flo (c + 1 / 2) = nea c from rfl)
  refine ⟨this.1, ?_⟩
  have h := this.2
  grind
/-- The size of a fraction. -/
def ab (q : Rat) : Rat := if q < 0 then -q else q
theorem rat_neg_iff {q : Rat} {M K : Int} (hM : 0 < M) (h : q * (M : Rat) = (K : Rat)) : q < 0 ↔ K < 0 := by
  have hMr : (0 : Rat) < (M : Rat) := Rat.intCast_pos.2 hM
  rw [← Rat.intCast_lt_intCast, ← h, show ((0 : Int) : Rat) = 0 * (M : Rat) from by rw [Rat.zero_mul]; rfl, Rat.mul_lt_mul_right hMr]
/-- The k-th number about c. -/
def nth (c : Rat) (k : Nat) : Int := if (k % 2 = 1) = (((nea c : Int) : Rat) ≤ c) then nea c + ((k + 1) / 2 : Nat) else nea c - ((k + 1) / 2 : Nat)
/-- The number behind x. -/
def bhd (c : Rat) (x : Int) : Int := if c < (x : Rat) then flo (2 * c - (x : Rat)) else flo (2 * c - (x : Rat)) + 1
theorem nea_eq (c : Rat) : nea c = (2 * c.num + (c.den : Int)) / (2 * (c.den : Int)) := by
  have hM := den_p' c
  have e : c + 1 / 2 = ((2 * c.num + (c.den : Int) : Int) : Rat) / ((2 * (c.den : Int) : Int) : Rat) := by
    have h1 := rat_nd c
    have hne : (((c.den : Int)) : Rat) ≠ 0 := rat_ne (by omega)
    rw [Rat.intCast_add, Rat.intCast_mul, Rat.intCast_mul]
    show _ = ((2 : Rat) * _ + _) / ((2 : Rat) * _)
    conv => lhs; rw [← h1]
    generalize ((c.num : Int) : Rat) = a
    generalize (((c.den : Int)) : Rat) = d at *
    grind
  unfold nea
  rw [e, flo_frac (by omega), Int.fdiv_eq_ediv_of_nonneg _ (by omega)]
theorem mir_eq (c : Rat) (x : Int) : flo (2 * c - (x : Rat)) = (2 * c.num - (c.den : Int) * x) / (c.den : Int) := by
  have hM := den_p' c
  have e : 2 * c - (x : Rat) = ((2 * c.num - (c.den : Int) * x : Int) : Rat) / (((c.den : Int)) : Rat) := by
    have h1 := rat_nd c
    have hne : (((c.den : Int)) : Rat) ≠ 0 := rat_ne (by omega)
    rw [Rat.intCast_sub, Rat.intCast_mul, Rat.intCast_mul]
    show _ = ((2 : Rat) * _ - _) / _
    conv => lhs; rw [← h1]
    generalize ((c.num : Int) : Rat) = a
    generalize (((c.den : Int)) : Rat) = d at *
    grind
  rw [e, flo_frac hM, Int.fdiv_eq_ediv_of_nonneg _ (by omega)]
theorem int_le_c (c : Rat) (x : Int) : (x : Rat) ≤ c ↔ (c.den : Int) * x ≤ c.num := by
  have hdr : (0 : Rat) < ((c.den : Int) : Rat) := Rat.intCast_pos.2 (den_p' c)
  conv => lhs; rw [← rat_nd c]
  rw [rle_div (den_p' c), Int.mul_comm]
theorem c_lt_int (c : Rat) (x : Int) : c < (x : Rat) ↔ c.num < (c.den : Int) * x := by
  have := int_le_c c x
  rw [← Rat.not_le, this]; omega
end Go.Proofs.YtekghdfbhbhigaaGreat.V
/- Search trees: centres, parts, the numbers about a centre. -/
set_option linter.unusedVariables false
set_option linter.unusedSimpArgs false
set_option maxRecDepth 100000
namespace Go.Proofs.YtekghdfbhbhigaaGreat.V
open Go.RowKit Mt Nml
theorem tyTr : Ty Tryz.prog 39 true 7 := ⟨by kernel_rfl, by kernel_rfl⟩
theorem fTrG : FieldT Tryz.prog 39 0 0 true 2 := FieldT.mk' tyG
theorem fTrT : FieldT Tryz.prog 39 1 2 false 1 := FieldT.mk' tyQs
theorem fTrR : FieldT Tryz.prog 39 2 3 true 4 := FieldT.mk' tyQ
/-- A search tree however told. -/
abbrev T.Tr (D : List Int) (L : List (List Int)) (ts : List (Int × Int)) (a b : Int) (k : Nat) : T := T.st [T.l (cZi k) D, T.l (cL (cZi k)) L, T.l (cQi k) ts, T.Zi a k, T.Zi b k]
theorem nea_frac {a b : Int} (hb : 0 < b) : nea ((a : Rat) / (b : Rat)) = Int.fdiv (a + a + b) (b + b) := by
  have e : (a : Rat) / (b : Rat) + 1 / 2 = ((a + a + b : Int) : Rat) / ((b + b : Int) : Rat) := by
    have hne := rat_ne (show b ≠ 0 by omega)
    rw [Rat.intCast_add, Rat.intCast_add, Rat.intCast_add]
    generalize (a : Rat) = x
    generalize (b : Rat) = y at *
    grind
  unfold nea
  rw [e, flo_frac (by omega)]

theorem zi_Near {a b : Int} {k l : Nat} (hb : 0 < b) (hk : k ≤ 274877906944) (hl : l ≤ 274877906944) : Fn Tryz.prog 188 [T.Zi a k, T.Zi b l] [] [] [] (T.tup [T.Z (Int.fdiv (a + a + b) (b + b)) (k + k + 1 + l + 1 + 3), T.c (.int .i64 0)]) := by
  refine fn_of Tryz.func188 rfl (by show 2 ≤ 24; decide) fun cx hcx => ?_
  refine tri_sub (sl 0 rfl (sl 1 rfl sn)) en ?_
  refine tri_seq ?_
  refine tri_reg mixed hcx ?_ _ _
  refine bx 10 rfl ?_
  refine bx 11 rfl ?_
  refine nw 12 zeZ ?_
  refine asg rfl ?_
  refine ⟨by kernel_rfl, ?_⟩
  refine nx (sl 2 rfl (sl 3 rfl (sl 4 rfl sn))) (el 10 rfl (el 11 rfl (el 12 rfl en))) ?_
  refine tri_seq ?_
  refine tri_reg mixed hcx ?_ _ _
  refine ld rfl rfl tyZ rfl ?_
  refine ld rfl rfl tyZ rfl ?_
  refine ca rfl (h := zi_Add (by omega) (by omega)) (hn := ?_)
  refine ld rfl rfl tyZ rfl ?_
  refine ca rfl (h := zi_Add (by omega) (by omega)) (hn := ?_)
  refine ld rfl rfl tyZ rfl ?_
  refine ld rfl rfl tyZ rfl ?_
  refine ca rfl (h := zi_Add (by omega) (by omega)) (hn := ?_)
  refine ca rfl (h := zi_Floor (by omega) (by omega) (by omega)) (hn := ?_)
  refine mv rfl ?_
  refine ex rfl rfl ?_
  refine ex rfl rfl ?_
  refine ex rfl rfl ?_
  refine nw 123 zeZ ?_
  refine nw 124 zeZ ?_
  refine st rfl rfl rfl tyZ rfl ?_
  refine st rfl rfl rfl tyZ rfl ?_
  refine asg rfl ?_
  refine ⟨by kernel_rfl, ?_⟩
  refine nx (sl 4 rfl (sl 6 rfl (sl 8 rfl sn))) (el 10 rfl (el 11 rfl (el 12 rfl (el 123 rfl (el 124 rfl en))))) ?_
  refine tri_seq ?_
  refine tri_reg mixed hcx ?_ _ _
  refine ld rfl rfl tyZ rfl ?_
  refine mv rfl ?_
  refine st rfl rfl rfl tyZ rfl ?_
  refine asg rfl ?_
  refine ⟨by kernel_rfl, ?_⟩
  refine nx (sl 4 rfl (sl 5 rfl sn)) (el 10 rfl (el 11 rfl (el 12 rfl (el 123 rfl (el 124 rfl en))))) ?_
  refine tri_ret ?_
  repeat (first | refine pn_thenr ?_ | refine pn_blkr ?_)
  exact ret2 hcx rfl (rv_cell (c' := cx) (n := 0) rfl rfl tyZ rfl) (rv_tmp rfl) (.refl _) en

theorem rat_NearG {a b : Int} {k : Nat} (hb : 0 < b) (hk : k ≤ 17179869184) : Fn Tryz.prog 165 [T.Qi a b k] [] [] [] (T.tup [T.Z (Int.fdiv (a + a + b) (b + b)) (k + k + 1 + k + 1 + 3), T.c (.int .i64 0)]) := by
  refine fn_of Tryz.func165 rfl (by show 1 ≤ 23; decide) fun cx hcx => ?_
  refine tri_sub (sl 0 rfl sn) en ?_
  refine tri_seq ?_
  refine tri_reg mixed hcx ?_ _ _
  refine bxs 10 rfl ?_
  refine nw 11 zeZ ?_
  refine asg rfl ?_
  refine ⟨by kernel_rfl, ?_⟩
  refine nx (sl 1 rfl (sl 2 rfl sn)) (el 10 rfl (el 11 rfl en)) ?_
  refine tri_seq ?_
  refine tri_seq ?_
  refine tri_reg mixed hcx ?_ _ _
  refine ld rfl rfl tyQ rfl ?_
  refine bs (c := cQi k) (xs := [(a, b)]) slQs rfl ⟨.refl _, trivial⟩ ?_
  refine ca rfl (h := rat_validG (by omega) (by simp) (fun i hi => by match i, hi with | 0, _ => exact hb)) (hn := ?_)
  refine asg rfl ?_
  refine ⟨by kernel_rfl, ?_⟩
  refine nx (sl 1 rfl (sl 2 rfl (sl 4 rfl sn))) (el 10 rfl (el 11 rfl en)) ?_
  refine tri_seq ?_
  refine tri_reg mixed hcx ?_ _ _
  refine mv rfl ?_
  refine cne rfl rfl (decide_eq_false (by omega)) ?_
  refine ⟨by kernel_rfl, ?_⟩
  refine nx (sl 1 rfl (sl 2 rfl (sl 4 rfl (sl 11 rfl sn)))) (el 10 rfl (el 11 rfl en)) ?_
  refine tri_false rfl rfl ?_
  refine tri_skip ?_
  refine nx (sl 1 rfl (sl 2 rfl sn)) (el 10 rfl (el 11 rfl en)) ?_
  refine tri_seq ?_
  refine tri_reg mixed hcx ?_ _ _
  refine fa rfl fNum 0 ?_
  refine ld rfl rfl tyZ rfl ?_
  refine fa rfl fDen 2 ?_
  refine ld rfl rfl tyZ rfl ?_
  refine ca rfl (h := zi_Near hb (by omega) (by omega)) (hn := ?_)
  refine mv rfl ?_
  refine ex rfl rfl ?_
  refine ex rfl rfl ?_
  refine nw 418 zeZ ?_
  refine st rfl rfl rfl tyZ rfl ?_
  refine asg rfl ?_
  refine ⟨by kernel_rfl, ?_⟩
  refine nx (sl 2 rfl (sl 5 rfl sn)) (el 10 rfl (el 11 rfl (el 418 rfl en))) ?_
  refine tri_seq ?_
  refine tri_reg mixed hcx ?_ _ _
  refine ld rfl rfl tyZ rfl ?_
  refine st rfl rfl rfl tyZ rfl ?_
  refine asg rfl ?_
  refine ⟨by kernel_rfl, ?_⟩
  refine nx (sl 2 rfl (sl 3 rfl sn)) (el 10 rfl (el 11 rfl (el 418 rfl en))) ?_
  refine tri_ret ?_
  repeat (first | refine pn_thenr ?_ | refine pn_blkr ?_)
  exact ret2 hcx rfl (rv_cell (c' := cx) (n := 0) rfl rfl tyZ rfl) (rv_tmp rfl) (.refl _) en

theorem rat_FloorG {a b : Int} {k : Nat} (hb : 0 < b) (hk : k ≤ 17179869184) : Fn Tryz.prog 144 [T.Qi a b k] [] [] [] (T.tup [T.Z (Int.fdiv a b) (k + 3), T.c (.int .i64 0)]) := by
  refine fn_of Tryz.func144 rfl (by show 1 ≤ 25; decide) fun cx hcx => ?_
  refine tri_sub (sl 0 rfl sn) en ?_
  refine tri_seq ?_
  refine tri_reg mixed hcx ?_ _ _
  refine bxs 10 rfl ?_
  refine nw 11 zeZ ?_
  refine asg rfl ?_
  refine ⟨by kernel_rfl, ?_⟩
  refine nx (sl 1 rfl (sl 2 rfl sn)) (el 10 rfl (el 11 rfl en)) ?_
  refine tri_seq ?_
  refine tri_seq ?_
  refine tri_reg mixed hcx ?_ _ _
  refine ld rfl rfl tyQ rfl ?_
  refine bs (c := cQi k) (xs := [(a, b)]) slQs rfl ⟨.refl _, trivial⟩ ?_
  refine ca rfl (h := rat_validG (by omega) (by simp) (fun i hi => by match i, hi with | 0, _ => exact hb)) (hn := ?_)
  refine asg rfl ?_
  refine ⟨by kernel_rfl, ?_⟩
  refine nx (sl 1 rfl (sl 2 rfl (sl 4 rfl sn))) (el 10 rfl (el 11 rfl en)) ?_
  refine tri_seq ?_
  refine tri_reg mixed hcx ?_ _ _
  refine mv rfl ?_
  refine cne rfl rfl (decide_eq_false (by omega)) ?_
  refine ⟨by kernel_rfl, ?_⟩
  refine nx (sl 1 rfl (sl 2 rfl (sl 4 rfl (sl 12 rfl sn)))) (el 10 rfl (el 11 rfl en)) ?_
  refine tri_false rfl rfl ?_
  refine tri_skip ?_
  refine nx (sl 1 rfl (sl 2 rfl sn)) (el 10 rfl (el 11 rfl en)) ?_
  refine tri_seq ?_
  refine tri_reg mixed hcx ?_ _ _
  refine fa rfl fNum 0 ?_
  refine ld rfl rfl tyZ rfl ?_
  refine fa rfl fDen 2 ?_
  refine ld rfl rfl tyZ rfl ?_
  refine ca rfl (h := zi_Floor (by omega) (by omega) (by omega)) (hn := ?_)
  refine mv rfl ?_
  refine ex rfl rfl ?_
  refine ex rfl rfl ?_
  refine ex rfl rfl ?_
  refine nw 419 zeZ ?_
  refine nw 420 zeZ ?_
  refine st rfl rfl rfl tyZ rfl ?_
  refine st rfl rfl rfl tyZ rfl ?_
  refine asg rfl ?_
  refine ⟨by kernel_rfl, ?_⟩
  refine nx (sl 2 rfl (sl 5 rfl sn)) (el 10 rfl (el 11 rfl (el 419 rfl (el 420 rfl en)))) ?_
  refine tri_seq ?_
  refine tri_reg mixed hcx ?_ _ _
  refine ld rfl rfl tyZ rfl ?_
  refine st rfl rfl rfl tyZ rfl ?_
  refine asg rfl ?_
  refine ⟨by kernel_rfl, ?_⟩
  refine nx (sl 2 rfl (sl 3 rfl sn)) (el 10 rfl (el 11 rfl (el 419 rfl (el 420 rfl en)))) ?_
  refine tri_ret ?_
  repeat (first | refine pn_thenr ?_ | refine pn_blkr ?_)
  exact ret2 hcx rfl (rv_cell (c' := cx) (n := 0) rfl rfl tyZ rfl) (rv_tmp rfl) (.refl _) en

theorem nea_zl {a b : Int} {k : Nat} (hb : 0 < b) (h1 : zl a ≤ k) (h2 : zl b ≤ k) : zl (Int.fdiv (a + a + b) (b + b)) ≤ k + 2 := zl_fdiv (by omega) (zl_add_max (zl_add_max h1 h1) (Nat.le_trans h2 (by omega)))

theorem rv_Near {x : Rat} {k : Nat} (hk : k ≤ 17179869184) : Fn Tryz.prog 165 [T.V x k] [] [] [] (T.tup [T.Z (nea x) (k + 2), T.c (.int .i64 0)]) := fn_v [] (Bs := []) fun p p1 p2 p3 p4 => fn_out (rat_NearG p1 hk) (tup_le ⟨by rw [← p2, nea_frac p1]; exact z_as (nea_zl p1 p3 p4), .refl _, trivial⟩)

theorem rv_Floor {x : Rat} {k : Nat} (hk : k ≤ 17179869184) : Fn Tryz.prog 144 [T.V x k] [] [] [] (T.tup [T.Z (flo x) k, T.c (.int .i64 0)]) := fn_v [] (Bs := []) fun p p1 p2 p3 p4 => fn_out (rat_FloorG p1 hk) (tup_le ⟨by rw [← p2, flo_frac p1]; exact z_as (zl_fdiv p1 p3), .refl _, trivial⟩)

theorem cq_pos {x y : Rat} (h : y < x) : cq x y = 1 := by
  unfold cq
  rw [if_neg (Rat.not_lt.2 (Rat.le_of_lt h)), if_pos h]
theorem cq_npos {x y : Rat} (h : ¬ y < x) : cq x y ≤ 0 := by
  unfold cq
  rw [if_neg h]
  split <;> omega
theorem mir {c : Rat} {x : Int} : c + (c - (x : Rat)) = 2 * c - (x : Rat) := by grind
theorem z_eqz {z z' : Int} {k k' : Nat} (e : z = z') (hk : k ≤ k') : (T.Z z k).le (T.Z z' k') := by subst e; exact z_mono hk

theorem t_behind {c : Rat} {x : Int} {k l : Nat} (hk : k ≤ 4294967296) (hl : l ≤ 4294967296) : Fn Tryz.prog 166 [T.V c k, T.Zi x l] [] [] [] (T.Z (bhd c x) (2 * k + l + 16)) := by
  refine fn_of Tryz.func166 rfl (by show 2 ≤ 42; decide) fun cx hcx => ?_
  refine tri_sub (sl 0 rfl (sl 1 rfl sn)) en ?_
  refine tri_seq ?_
  refine tri_reg mixed hcx ?_ _ _
  refine bx 10 rfl ?_
  refine bx 11 rfl ?_
  refine nw 12 zeZ ?_
  refine ⟨by kernel_rfl, ?_⟩
  refine nx (sl 2 rfl (sl 3 rfl (sl 4 rfl sn))) (el 10 rfl (el 11 rfl (el 12 rfl en))) ?_
  refine tri_seq ?_
  refine tri_reg mixed hcx ?_ _ _
  refine ld rfl rfl tyQ rfl ?_
  refine ld rfl rfl tyZ rfl ?_
  refine ca rfl (h := rat_Of (by omega)) (hn := ?_)
  refine cb rfl (h := rv_Sub (by omega) (by omega)) (hn := ?_)
  refine mv rfl ?_
  refine ex rfl rfl ?_
  refine ex rfl rfl ?_
  refine nw 117 zeQ ?_
  refine st rfl rfl rfl tyQ rfl ?_
  refine asg rfl ?_
  refine ⟨by kernel_rfl, ?_⟩
  refine nx (sl 2 rfl (sl 3 rfl (sl 4 rfl (sl 5 rfl sn)))) (el 10 rfl (el 11 rfl (el 12 rfl (el 117 rfl en)))) ?_
  refine tri_seq ?_
  refine tri_reg mixed hcx ?_ _ _
  refine ld rfl rfl tyQ rfl ?_
  refine ld rfl rfl tyQ rfl ?_
  refine cb rfl (h := rv_Add (by omega) (by omega)) (hn := ?_)
  refine mv rfl ?_
  refine ex rfl rfl ?_
  refine ex rfl rfl ?_
  refine st rfl rfl rfl tyQ rfl ?_
  refine ⟨by kernel_rfl, ?_⟩
  refine nx (sl 2 rfl (sl 3 rfl (sl 4 rfl (sl 5 rfl sn)))) (el 10 rfl (el 11 rfl (el 12 rfl (el 117 rfl en)))) ?_
  refine tri_seq ?_
  refine tri_reg mixed hcx ?_ _ _
  refine ld rfl rfl tyQ rfl ?_
  refine cb rfl (h := rv_Floor (by omega)) (hn := ?_)
  refine mv rfl ?_
  refine ex rfl rfl ?_
  refine ex rfl rfl ?_
  refine nw 315 zeZ ?_
  refine st rfl rfl rfl tyZ rfl ?_
  refine asg rfl ?_
  refine ⟨by kernel_rfl, ?_⟩
  refine nx (sl 2 rfl (sl 3 rfl (sl 4 rfl (sl 7 rfl sn)))) (el 10 rfl (el 11 rfl (el 12 rfl (el 117 rfl (el 315 rfl en))))) ?_
  refine tri_seq ?_
  refine tri_reg mixed hcx ?_ _ _
  refine ld rfl rfl tyZ rfl ?_
  refine ca rfl (h := rat_Of (by omega)) (hn := ?_)
  refine ld rfl rfl tyQ rfl ?_
  refine cb rfl (h := rv_Cmp (by omega) (by omega)) (hn := ?_)
  refine mv rfl ?_
  refine ex rfl rfl ?_
  refine ex rfl rfl ?_
  refine asg rfl ?_
  refine asg rfl ?_
  refine ⟨by kernel_rfl, ?_⟩
  refine nx (sl 4 rfl (sl 7 rfl (sl 9 rfl sn))) (el 10 rfl (el 11 rfl (el 12 rfl (el 117 rfl (el 315 rfl en))))) ?_
  refine tri_seq ?_
  refine tri_seq ?_
  by_cases hc : c < (x : Rat)
  · have hcq := cq_pos hc
    refine tri_reg mixed hcx ?_ _ _
    refine mv rfl ?_
    refine cgt rfl rfl (decide_eq_true (by omega)) ?_
    refine ⟨by kernel_rfl, ?_⟩
    refine nx (sl 4 rfl (sl 7 rfl (sl 37 rfl sn))) (el 10 rfl (el 11 rfl (el 12 rfl (el 117 rfl (el 315 rfl en))))) ?_
    refine tri_true rfl rfl ?_
    refine tri_seq ?_
    refine tri_reg mixed hcx ?_ _ _
    refine ld rfl rfl tyZ rfl ?_
    refine st rfl rfl rfl tyZ rfl ?_
    refine ⟨by kernel_rfl, ?_⟩
    refine nx (sl 4 rfl sn) (el 10 rfl (el 11 rfl (el 12 rfl (el 117 rfl (el 315 rfl en))))) ?_
    refine tri_ret ?_
    repeat (first | refine pn_thenr ?_ | refine pn_blkr ?_)
    exact ret1 hcx rfl (rv_cell (c' := cx) (n := 0) rfl rfl tyZ rfl) (z_eqz (by unfold bhd; rw [if_pos hc, mir]) (by omega)) en
  · have hcq := cq_npos hc
    refine tri_reg mixed hcx ?_ _ _
    refine mv rfl ?_
    refine cgt rfl rfl (decide_eq_false (by omega)) ?_
    refine ⟨by kernel_rfl, ?_⟩
    refine nx (sl 4 rfl (sl 7 rfl (sl 37 rfl sn))) (el 10 rfl (el 11 rfl (el 12 rfl (el 117 rfl (el 315 rfl en))))) ?_
    refine tri_false rfl rfl ?_
    refine tri_skip ?_
    refine nx (sl 4 rfl (sl 7 rfl sn)) (el 10 rfl (el 11 rfl (el 12 rfl (el 117 rfl (el 315 rfl en))))) ?_
    refine tri_seq ?_
    refine tri_reg mixed hcx ?_ _ _
    refine ld rfl rfl tyZ rfl ?_
    refine ca rfl (h := zi_Of (by omega) (by omega)) (hn := ?_)
    refine ca rfl (h := zi_Add (by omega) (by omega)) (hn := ?_)
    refine st rfl rfl rfl tyZ rfl ?_
    refine ⟨by kernel_rfl, ?_⟩
    refine nx (sl 4 rfl sn) (el 10 rfl (el 11 rfl (el 12 rfl (el 117 rfl (el 315 rfl en))))) ?_
    refine tri_ret ?_
    repeat (first | refine pn_thenr ?_ | refine pn_blkr ?_)
    exact ret1 hcx rfl (rv_cell (c' := cx) (n := 0) rfl rfl tyZ rfl) (z_eqz (by unfold bhd; rw [if_neg hc, mir]) (by omega)) en

theorem nth_cases (c : Rat) (k : Nat) : (((nea c : Int) : Rat) ≤ c → k % 2 = 1 → nth c k = nea c + (((k + 1) / 2 : Nat) : Int)) ∧ (((nea c : Int) : Rat) ≤ c → ¬ k % 2 = 1 → nth c k = nea c + -(((k + 1) / 2 : Nat) : Int)) ∧ (¬ ((nea c : Int) : Rat) ≤ c → k % 2 = 1 → nth c k = nea c + -(((k + 1) / 2 : Nat) : Int)) ∧ (¬ ((nea c : Int) : Rat) ≤ c → ¬ k % 2 = 1 → nth c k = nea c + (((k + 1) / 2 : Nat) : Int)) := by
  unfold nth
  refine ⟨fun h1 h2 => ?_, fun h1 h2 => ?_, fun h1 h2 => ?_, fun h1 h2 => ?_⟩
  · rw [if_pos (by simp [h1, h2])]
  · rw [if_neg (by simp [h1, h2])]; omega
  · rw [if_neg (by simp [h1, h2])]; omega
  · rw [if_pos (by simp [h1, h2])]
theorem sg_nn {a : Int} (h : 0 ≤ a) : 0 ≤ sg a := by unfold sg sgnc; split <;> (try split) <;> omega

theorem t_Valid {D : List Int} {L : List (List Int)} {ts : List (Int × Int)} {a b : Int} {n k : Nat} (h : TrS D L ts n k) (hb : 0 < b) (ha : 0 ≤ a) : Fn Tryz.prog 79 [T.Tr D L ts a b k] [] [] [] (T.c (.int .i64 0)) := by
  refine fn_of Tryz.func79 rfl (by show 1 ≤ 61; decide) fun cx hcx => ?_
  refine tri_sub (sl 0 rfl sn) en ?_
  have hn12 := h.twelve
  have hkk := h.hk
  have hlL := h.len
  have hn0 := h.pos
  have hsb : sg b = 1 := sg_pos hb
  have hsa : 0 ≤ sg a := sg_nn ha
  have hDl : D.length = L.length + 1 := h.good.2.1
  refine tri_seq ?_
  refine tri_reg mixed hcx ?_ _ _
  refine bxs 10 rfl ?_
  refine asg rfl ?_
  refine ⟨by kernel_rfl, ?_⟩
  refine nx (sl 1 rfl sn) (el 10 rfl en) ?_
  refine tri_seq ?_
  refine tri_reg mixed hcx ?_ _ _
  refine fa rfl fTrG 0 ?_
  refine fa rfl fL 1 ?_
  refine ld rfl rfl tyZss rfl ?_
  refine ln slZss rfl ?_
  refine asg rfl ?_
  refine ⟨by kernel_rfl, ?_⟩
  refine nx (sl 1 rfl (sl 3 rfl sn)) (el 10 rfl en) ?_
  refine tri_seq ?_
  refine tri_seq ?_
  rcases h.tl with htl | htl
  · refine tri_reg mixed hcx ?_ _ _
    refine mv rfl ?_
    refine cgt rfl rfl (decide_eq_false (by omega)) ?_
    refine mv rfl ?_
    refine fa rfl fTrT 2 ?_ (hg := gd1)
    refine ld rfl rfl tyQs rfl ?_ (hg := gd1)
    refine ln slQs rfl ?_ (hg := gd1)
    refine cne rfl rfl (decide_eq_false (by omega)) ?_ (hg := gd1)
    refine mv rfl ?_ (hg := gd1)
    refine j_off rfl rfl rfl rfl ?_
    refine j_off rfl rfl rfl rfl ?_
    refine j_off rfl rfl rfl rfl ?_
    refine j_off rfl rfl rfl rfl ?_
    refine j_off rfl rfl rfl rfl ?_
    refine pk rfl rfl ?_ (hg := gd1)
    refine pk rfl rfl ?_
    refine mv rfl ?_
    refine fa rfl fTrR 3 ?_ (hg := gd1)
    refine fa rfl fDen 5 ?_ (hg := gd1)
    refine ld rfl rfl tyZ rfl ?_ (hg := gd1)
    refine ca rfl (h := zi_Sign (by omega)) (hn := ?_) (hg := gd1)
    refine cle rfl rfl (decide_eq_false (by omega)) ?_ (hg := gd1)
    refine pk rfl rfl ?_
    refine mv rfl ?_
    refine fa rfl fTrR 3 ?_ (hg := gd1)
    refine fa rfl fNum 3 ?_ (hg := gd1)
    refine ld rfl rfl tyZ rfl ?_ (hg := gd1)
    refine ca rfl (h := zi_Sign (by omega)) (hn := ?_) (hg := gd1)
    refine clt rfl rfl (decide_eq_false (by omega)) ?_ (hg := gd1)
    refine pk rfl rfl ?_
    refine ⟨by kernel_rfl, ?_⟩
    refine nx (sl 1 rfl (sl 40 rfl sn)) (el 10 rfl en) ?_
    refine tri_false rfl rfl ?_
    refine tri_skip ?_
    refine nx (sl 1 rfl sn) (el 10 rfl en) ?_
    refine tri_seq ?_
    refine tri_seq ?_
    refine tri_reg mixed hcx ?_ _ _
    refine fa rfl fTrG 0 ?_
    refine ld rfl rfl tyG rfl ?_
    refine ca rfl (h := g_Star (k := k) (i := 0) (by omega) (by omega) h.good h.good.1) (hn := ?_)
    refine mv rfl ?_
    refine ex rfl rfl ?_
    refine ex rfl rfl ?_
    refine nw 416 zeQ ?_
    refine st rfl rfl rfl tyQ rfl ?_
    refine asg rfl ?_
    refine ⟨by kernel_rfl, ?_⟩
    refine nx (sl 1 rfl (sl 5 rfl sn)) (el 10 rfl (el 416 rfl en)) ?_
    refine tri_seq ?_
    refine tri_reg mixed hcx ?_ _ _
    refine mv rfl ?_
    refine cne rfl rfl (decide_eq_false (by omega)) ?_
    refine ⟨by kernel_rfl, ?_⟩
    refine nx (sl 1 rfl (sl 48 rfl sn)) (el 10 rfl (el 416 rfl en)) ?_
    refine tri_false rfl rfl ?_
    refine tri_skip ?_
    refine nx (sl 1 rfl sn) (el 10 rfl (el 416 rfl en)) ?_
    refine tri_seq ?_
    refine tri_seq ?_
    refine tri_reg mixed hcx ?_ _ _
    refine fa rfl fTrT 2 ?_
    refine ld rfl rfl tyQs rfl ?_
    refine ln slQs rfl ?_
    refine mv rfl ?_
    refine ⟨by kernel_rfl, ?_⟩
    refine nx (sl 50 rfl (sl 51 rfl (sl 52 rfl sn))) (el 10 rfl (el 416 rfl en)) ?_
    refine tri_block ?_
    refine tri_loop (ι := Nat) (fun i => [(50, T.l (cQi k) ts), (51, T.c (.int .i64 (ts.length : Int))), (52, T.c (.int .i64 (i : Int)))]) (fun i => []) (fun i => ts.length - i) (fun i => (i ≤ ts.length)) 0 (Nat.zero_le _) (sl 50 rfl (sl 51 rfl (sl 52 rfl sn))) en ?_
    rintro i hi
    refine tri_sub (sl 50 rfl (sl 51 rfl (sl 52 rfl sn))) en ?_
    refine tri_seq ?_
    refine tri_reg mixed hcx ?_ _ _
    refine clt rfl rfl rfl ?_
    refine ⟨by kernel_rfl, ?_⟩
    refine nx (sl 50 rfl (sl 51 rfl (sl 52 rfl (sl 53 rfl sn)))) en ?_
    refine tri_seq ?_
    refine tri_if rfl (fun hc => ?_) (fun hc => ?_)
    · have hte : sg (ts.getD i (cQi k).dflt).2 = 1 := sg_pos (h.tp i (by omega))
      refine tri_skip ?_
      refine nx (sl 50 rfl (sl 51 rfl (sl 52 rfl sn))) en ?_
      refine tri_seq ?_
      refine tri_block ?_
      refine tri_seq ?_
      refine tri_reg mixed hcx ?_ _ _
      refine ix rfl rfl slQs ⟨rfl, by omega⟩ ?_
      refine lf rfl tyQ ?_
      refine nw 912 zeQ ?_
      refine sts (zz := [T.Zi (ts.getD i (cQi k).dflt).1 k, T.Zi (ts.getD i (cQi k).dflt).2 k]) rfl rfl rfl tyQ rfl ?_
      refine ⟨by kernel_rfl, ?_⟩
      refine nx (sl 7 rfl (sl 50 rfl (sl 51 rfl (sl 52 rfl sn)))) (el 912 rfl en) ?_
      refine tri_seq ?_
      refine tri_reg mixed hcx ?_ _ _
      refine fa rfl fDen 2 ?_
      refine ld rfl rfl tyZ rfl ?_
      refine ca rfl (h := zi_Sign (by omega)) (hn := ?_)
      refine cle rfl rfl (decide_eq_false (by omega)) ?_
      refine ⟨by kernel_rfl, ?_⟩
      refine nx (sl 50 rfl (sl 51 rfl (sl 52 rfl (sl 59 rfl sn)))) (el 912 rfl en) ?_
      refine tri_false rfl rfl ?_
      refine tri_skip ?_
      refine pn_blk ?_
      refine nx (sl 50 rfl (sl 51 rfl (sl 52 rfl sn))) (el 912 rfl en) ?_
      refine tri_reg mixed hcx ?_ _ _
      refine ad (((i + 1 : Nat) : Int)) rfl rfl rfl (by omega) ?_
      refine mv rfl ?_
      refine ⟨by kernel_rfl, ?_⟩
      exact pn_back (i + 1) (by first | omega | (dsimp only; omega)) (by omega) (sl 50 rfl (sl 51 rfl (sl 52 rfl sn))) en
    · refine tri_exit ?_
      repeat (first | refine pn_then ?_ | refine pn_oth (by decide) ?_)
      refine pn_ex ?_
      refine nx sn en ?_
      refine tri_seq ?_
      refine tri_reg mixed hcx ?_ _ _
      refine asg rfl ?_
      refine ⟨by kernel_rfl, ?_⟩
      refine nx (sl 2 rfl sn) en ?_
      refine tri_ret ?_
      repeat (first | refine pn_thenr ?_ | refine pn_blkr ?_)
      exact ret1 hcx rfl (rv_tmp rfl) (.refl _) en
  · have htz : ts.length ≠ 0 := by omega
    refine tri_reg mixed hcx ?_ _ _
    refine mv rfl ?_
    refine cgt rfl rfl (decide_eq_false (by omega)) ?_
    refine mv rfl ?_
    refine fa rfl fTrT 2 ?_ (hg := gd1)
    refine ld rfl rfl tyQs rfl ?_ (hg := gd1)
    refine ln slQs rfl ?_ (hg := gd1)
    refine cne rfl rfl (decide_eq_true (by omega)) ?_ (hg := gd1)
    refine mv rfl ?_ (hg := gd1)
    refine fa rfl fTrT 2 ?_ (hg := gd1)
    refine ld rfl rfl tyQs rfl ?_ (hg := gd1)
    refine ln slQs rfl ?_ (hg := gd1)
    refine mv rfl ?_ (hg := gd1)
    refine cne rfl rfl (decide_eq_false (by omega)) ?_ (hg := gd1)
    refine pk rfl rfl ?_ (hg := gd1)
    refine pk rfl rfl ?_
    refine mv rfl ?_
    refine fa rfl fTrR 3 ?_ (hg := gd1)
    refine fa rfl fDen 5 ?_ (hg := gd1)
    refine ld rfl rfl tyZ rfl ?_ (hg := gd1)
    refine ca rfl (h := zi_Sign (by omega)) (hn := ?_) (hg := gd1)
    refine cle rfl rfl (decide_eq_false (by omega)) ?_ (hg := gd1)
    refine pk rfl rfl ?_
    refine mv rfl ?_
    refine fa rfl fTrR 3 ?_ (hg := gd1)
    refine fa rfl fNum 3 ?_ (hg := gd1)
    refine ld rfl rfl tyZ rfl ?_ (hg := gd1)
    refine ca rfl (h := zi_Sign (by omega)) (hn := ?_) (hg := gd1)
    refine clt rfl rfl (decide_eq_false (by omega)) ?_ (hg := gd1)
    refine pk rfl rfl ?_
    refine ⟨by kernel_rfl, ?_⟩
    refine nx (sl 1 rfl (sl 40 rfl sn)) (el 10 rfl en) ?_
    refine tri_false rfl rfl ?_
    refine tri_skip ?_
    refine nx (sl 1 rfl sn) (el 10 rfl en) ?_
    refine tri_seq ?_
    refine tri_seq ?_
    refine tri_reg mixed hcx ?_ _ _
    refine fa rfl fTrG 0 ?_
    refine ld rfl rfl tyG rfl ?_
    refine ca rfl (h := g_Star (k := k) (i := 0) (by omega) (by omega) h.good h.good.1) (hn := ?_)
    refine mv rfl ?_
    refine ex rfl rfl ?_
    refine ex rfl rfl ?_
    refine nw 416 zeQ ?_
    refine st rfl rfl rfl tyQ rfl ?_
    refine asg rfl ?_
    refine ⟨by kernel_rfl, ?_⟩
    refine nx (sl 1 rfl (sl 5 rfl sn)) (el 10 rfl (el 416 rfl en)) ?_
    refine tri_seq ?_
    refine tri_reg mixed hcx ?_ _ _
    refine mv rfl ?_
    refine cne rfl rfl (decide_eq_false (by omega)) ?_
    refine ⟨by kernel_rfl, ?_⟩
    refine nx (sl 1 rfl (sl 48 rfl sn)) (el 10 rfl (el 416 rfl en)) ?_
    refine tri_false rfl rfl ?_
    refine tri_skip ?_
    refine nx (sl 1 rfl sn) (el 10 rfl (el 416 rfl en)) ?_
    refine tri_seq ?_
    refine tri_seq ?_
    refine tri_reg mixed hcx ?_ _ _
    refine fa rfl fTrT 2 ?_
    refine ld rfl rfl tyQs rfl ?_
    refine ln slQs rfl ?_
    refine mv rfl ?_
    refine ⟨by kernel_rfl, ?_⟩
    refine nx (sl 50 rfl (sl 51 rfl (sl 52 rfl sn))) (el 10 rfl (el 416 rfl en)) ?_
    refine tri_block ?_
    refine tri_loop (ι := Nat) (fun i => [(50, T.l (cQi k) ts), (51, T.c (.int .i64 (ts.length : Int))), (52, T.c (.int .i64 (i : Int)))]) (fun i => []) (fun i => ts.length - i) (fun i => (i ≤ ts.length)) 0 (Nat.zero_le _) (sl 50 rfl (sl 51 rfl (sl 52 rfl sn))) en ?_
    rintro i hi
    refine tri_sub (sl 50 rfl (sl 51 rfl (sl 52 rfl sn))) en ?_
    refine tri_seq ?_
    refine tri_reg mixed hcx ?_ _ _
    refine clt rfl rfl rfl ?_
    refine ⟨by kernel_rfl, ?_⟩
    refine nx (sl 50 rfl (sl 51 rfl (sl 52 rfl (sl 53 rfl sn)))) en ?_
    refine tri_seq ?_
    refine tri_if rfl (fun hc => ?_) (fun hc => ?_)
    · have hte : sg (ts.getD i (cQi k).dflt).2 = 1 := sg_pos (h.tp i (by omega))
      refine tri_skip ?_
      refine nx (sl 50 rfl (sl 51 rfl (sl 52 rfl sn))) en ?_
      refine tri_seq ?_
      refine tri_block ?_
      refine tri_seq ?_
      refine tri_reg mixed hcx ?_ _ _
      refine ix rfl rfl slQs ⟨rfl, by omega⟩ ?_
      refine lf rfl tyQ ?_
      refine nw 912 zeQ ?_
      refine sts (zz := [T.Zi (ts.getD i (cQi k).dflt).1 k, T.Zi (ts.getD i (cQi k).dflt).2 k]) rfl rfl rfl tyQ rfl ?_
      refine ⟨by kernel_rfl, ?_⟩
      refine nx (sl 7 rfl (sl 50 rfl (sl 51 rfl (sl 52 rfl sn)))) (el 912 rfl en) ?_
      refine tri_seq ?_
      refine tri_reg mixed hcx ?_ _ _
      refine fa rfl fDen 2 ?_
      refine ld rfl rfl tyZ rfl ?_
      refine ca rfl (h := zi_Sign (by omega)) (hn := ?_)
      refine cle rfl rfl (decide_eq_false (by omega)) ?_
      refine ⟨by kernel_rfl, ?_⟩
      refine nx (sl 50 rfl (sl 51 rfl (sl 52 rfl (sl 59 rfl sn)))) (el 912 rfl en) ?_
      refine tri_false rfl rfl ?_
      refine tri_skip ?_
      refine pn_blk ?_
      refine nx (sl 50 rfl (sl 51 rfl (sl 52 rfl sn))) (el 912 rfl en) ?_
      refine tri_reg mixed hcx ?_ _ _
      refine ad (((i + 1 : Nat) : Int)) rfl rfl rfl (by omega) ?_
      refine mv rfl ?_
      refine ⟨by kernel_rfl, ?_⟩
      exact pn_back (i + 1) (by first | omega | (dsimp only; omega)) (by omega) (sl 50 rfl (sl 51 rfl (sl 52 rfl sn))) en
    · refine tri_exit ?_
      repeat (first | refine pn_then ?_ | refine pn_oth (by decide) ?_)
      refine pn_ex ?_
      refine nx sn en ?_
      refine tri_seq ?_
      refine tri_reg mixed hcx ?_ _ _
      refine asg rfl ?_
      refine ⟨by kernel_rfl, ?_⟩
      refine nx (sl 2 rfl sn) en ?_
      refine tri_ret ?_
      repeat (first | refine pn_thenr ?_ | refine pn_blkr ?_)
      exact ret1 hcx rfl (rv_tmp rfl) (.refl _) en

theorem t_aim {D : List Int} {L : List (List Int)} {ts : List (Int × Int)} {a b : Int} {n k : Nat} (h : TrS D L ts n k) {i : Nat} (hi : i < n) : Fn Tryz.prog 162 [T.Tr D L ts a b k, T.c (.int .i64 (i : Int))] [] [] [] (T.V (aqT ts i) (k + 2)) := by
  refine fn_of Tryz.func162 rfl (by show 2 ≤ 16; decide) fun cx hcx => ?_
  refine tri_sub (sl 0 rfl (sl 1 rfl sn)) en ?_
  have hn12 := h.twelve
  have hkk := h.hk
  have hlL := h.len
  have hn0 := h.pos
  refine tri_seq ?_
  refine tri_reg mixed hcx ?_ _ _
  refine bxs 10 rfl ?_
  refine nw 11 zeQ ?_
  refine ⟨by kernel_rfl, ?_⟩
  refine nx (sl 1 rfl (sl 2 rfl (sl 4 rfl sn))) (el 10 rfl (el 11 rfl en)) ?_
  refine tri_seq ?_
  refine tri_seq ?_
  by_cases htz : ts.length = 0
  · refine tri_reg mixed hcx ?_ _ _
    refine fa rfl fTrT 2 ?_
    refine ld rfl rfl tyQs rfl ?_
    refine ln slQs rfl ?_
    refine ceq rfl rfl (decide_eq_true (by omega)) ?_
    refine ⟨by kernel_rfl, ?_⟩
    refine nx (sl 1 rfl (sl 2 rfl (sl 4 rfl (sl 8 rfl sn)))) (el 10 rfl (el 11 rfl en)) ?_
    refine tri_true rfl rfl ?_
    refine tri_seq ?_
    refine tri_reg mixed hcx ?_ _ _
    refine ca rfl (h := zi_Of (by omega) (by omega)) (hn := ?_)
    refine ca rfl (h := rat_Of (by omega)) (hn := ?_)
    refine st rfl rfl rfl tyQ rfl ?_
    refine ⟨by kernel_rfl, ?_⟩
    refine nx (sl 4 rfl sn) (el 10 rfl (el 11 rfl en)) ?_
    refine tri_ret ?_
    repeat (first | refine pn_thenr ?_ | refine pn_blkr ?_)
    exact ret1 hcx rfl (rv_cell (c' := cx) (n := 0) rfl rfl tyQ rfl) (q_vq (by unfold aqT; rw [if_pos htz]; rfl) (h.a hi)) en
  · have hti : i < ts.length := by rcases h.tl with h1 | h1 <;> omega
    have hte := h.tp i hti
    refine tri_reg mixed hcx ?_ _ _
    refine fa rfl fTrT 2 ?_
    refine ld rfl rfl tyQs rfl ?_
    refine ln slQs rfl ?_
    refine ceq rfl rfl (decide_eq_false (by omega)) ?_
    refine ⟨by kernel_rfl, ?_⟩
    refine nx (sl 1 rfl (sl 2 rfl (sl 4 rfl (sl 8 rfl sn)))) (el 10 rfl (el 11 rfl en)) ?_
    refine tri_false rfl rfl ?_
    refine tri_skip ?_
    refine nx (sl 1 rfl (sl 2 rfl (sl 4 rfl sn))) (el 10 rfl (el 11 rfl en)) ?_
    refine tri_seq ?_
    refine tri_reg mixed hcx ?_ _ _
    refine fa rfl fTrT 2 ?_
    refine ld rfl rfl tyQs rfl ?_
    refine mv rfl ?_
    refine ix rfl rfl slQs ⟨rfl, by omega⟩ ?_
    refine lf rfl tyQ ?_
    refine st rfl rfl rfl tyQ rfl ?_
    refine ⟨by kernel_rfl, ?_⟩
    refine nx (sl 4 rfl sn) (el 10 rfl (el 11 rfl en)) ?_
    refine tri_ret ?_
    repeat (first | refine pn_thenr ?_ | refine pn_blkr ?_)
    exact ret1 hcx rfl (rv_cell (c' := cx) (n := 0) rfl rfl tyQ rfl) (qi_v hte (by unfold aqT; rw [if_neg htz]; rfl) (by omega)) en

theorem t_centre {D : List Int} {L : List (List Int)} {ts : List (Int × Int)} {a b : Int} {n k : Nat} (h : TrS D L ts n k) {s : List Int} (hs : s.length + 1 ≤ n) : Fn Tryz.prog 117 [T.Tr D L ts a b k, T.l (cZi k) s] [] [] [] (T.Q (ctT D L ts s (n - 1) (n - 1 - s.length) s.length) 600000000) := by
  refine fn_of Tryz.func117 rfl (by show 2 ≤ 76; decide) fun cx hcx => ?_
  refine tri_sub (sl 0 rfl (sl 1 rfl sn)) en ?_
  have hn12 := h.twelve
  have hkk := h.hk
  have hlL := h.len
  have hn0 := h.pos
  refine tri_lz 1 rfl fun hz => ?_
  have hQ := fun e (he : n - 1 - s.length + e ≤ n - 1) => h.ct' hz (m := n - 1) (i := n - 1 - s.length) (c := e) (by omega) he
  refine tri_seq ?_
  refine tri_reg mixed hcx ?_ _ _
  refine bxs 10 rfl ?_
  refine nw 11 zeQ ?_
  refine ⟨by kernel_rfl, ?_⟩
  refine nx (sl 1 rfl (sl 2 rfl (sl 4 rfl sn))) (el 10 rfl (el 11 rfl en)) ?_
  refine tri_seq ?_
  refine tri_reg mixed hcx ?_ _ _
  refine fa rfl fTrG 0 ?_
  refine fa rfl fL 1 ?_
  refine ld rfl rfl tyZss rfl ?_
  refine ln slZss rfl ?_
  refine asg rfl ?_
  refine ⟨by kernel_rfl, ?_⟩
  refine nx (sl 1 rfl (sl 2 rfl (sl 4 rfl (sl 5 rfl sn)))) (el 10 rfl (el 11 rfl en)) ?_
  refine tri_seq ?_
  refine tri_reg mixed hcx ?_ _ _
  refine mv rfl ?_
  refine sb (((n - 1 : Nat) : Int)) rfl rfl rfl (by omega) ?_
  refine mv rfl ?_
  refine ln slZs rfl ?_
  refine sb (((n - 1 - s.length : Nat) : Int)) rfl rfl rfl (by omega) ?_
  refine asg rfl ?_
  refine ⟨by kernel_rfl, ?_⟩
  refine nx (sl 1 rfl (sl 2 rfl (sl 4 rfl (sl 5 rfl (sl 6 rfl sn))))) (el 10 rfl (el 11 rfl en)) ?_
  refine tri_seq ?_
  refine tri_reg mixed hcx ?_ _ _
  refine ld rfl rfl tyTr rfl ?_
  refine mv rfl ?_
  refine cb rfl (h := t_aim h (by omega)) (hn := ?_)
  refine ca rfl (h := zi_Of (by omega) (by omega)) (hn := ?_)
  refine ca rfl (h := rat_Of (by omega)) (hn := ?_)
  refine cb rfl (h := rv_Add (by omega) (by omega)) (hn := ?_)
  refine mv rfl ?_
  refine ex rfl rfl ?_
  refine ex rfl rfl ?_
  refine nw 319 zeQ ?_
  refine st rfl rfl rfl tyQ rfl ?_
  refine asg rfl ?_
  refine ⟨by kernel_rfl, ?_⟩
  refine nx (sl 1 rfl (sl 2 rfl (sl 4 rfl (sl 5 rfl (sl 6 rfl (sl 7 rfl sn)))))) (el 10 rfl (el 11 rfl (el 319 rfl en))) ?_
  refine tri_seq ?_
  refine tri_seq ?_
  refine tri_reg mixed hcx ?_ _ _
  refine mv rfl ?_
  refine ln slZs rfl ?_
  refine mv rfl ?_
  refine ⟨by kernel_rfl, ?_⟩
  refine nx (sl 1 rfl (sl 2 rfl (sl 4 rfl (sl 5 rfl (sl 6 rfl (sl 7 rfl (sl 34 rfl (sl 35 rfl sn)))))))) (el 10 rfl (el 11 rfl (el 319 rfl en))) ?_
  refine tri_block ?_
  refine tri_loop (ι := Nat) (fun e => [(1, T.l (cZi k) s), (2, T.p 10 0), (4, T.p 11 0), (5, T.c (.int .i64 (L.length : Int))), (6, T.c (.int .i64 ((n - 1 - s.length : Nat) : Int))), (7, T.p 319 0), (34, T.c (.int .i64 (s.length : Int))), (35, T.c (.int .i64 (e : Int)))]) (fun e => [(10, some (Ent.box 39 [T.l (cZi k) D, T.l (cL (cZi k)) L, T.l (cQi k) ts, T.Zi a k, T.Zi b k])), (11, some (Ent.box 34 [T.c (.bool false), T.c (.slice none 0 0), T.c (.bool false), T.c (.slice none 0 0)])), (319, some (Ent.box 34 [T.Q (ctT D L ts s (n - 1) (n - 1 - s.length) e) 600000000]))]) (fun e => s.length - e) (fun e => (e ≤ s.length)) 0 (Nat.zero_le _) (sl 1 rfl (sl 2 rfl (sl 4 rfl (sl 5 rfl (sl 6 rfl (sl 7 rfl (sl 34 rfl (sl 35 rfl sn)))))))) (el 10 rfl (el 11 rfl (ew 319 rfl (box_q (q_qb (by show aqT ts _ + (0 : Rat) = aqT ts _; grind) (hQ 0 (by omega)))) en))) ?_
  rintro e he
  refine tri_sub (sl 1 rfl (sl 2 rfl (sl 4 rfl (sl 5 rfl (sl 6 rfl (sl 7 rfl (sl 34 rfl (sl 35 rfl sn)))))))) (el 10 rfl (el 11 rfl (el 319 rfl en))) ?_
  refine tri_seq ?_
  refine tri_reg mixed hcx ?_ _ _
  refine clt rfl rfl rfl ?_
  refine ⟨by kernel_rfl, ?_⟩
  refine nx (sl 1 rfl (sl 2 rfl (sl 4 rfl (sl 5 rfl (sl 6 rfl (sl 7 rfl (sl 34 rfl (sl 35 rfl (sl 36 rfl sn))))))))) (el 10 rfl (el 11 rfl (el 319 rfl en))) ?_
  refine tri_seq ?_
  refine tri_if rfl (fun hc => ?_) (fun hc => ?_)
  · refine tri_skip ?_
    refine nx (sl 1 rfl (sl 2 rfl (sl 4 rfl (sl 5 rfl (sl 6 rfl (sl 7 rfl (sl 34 rfl (sl 35 rfl sn)))))))) (el 10 rfl (el 11 rfl (el 319 rfl en))) ?_
    refine tri_seq ?_
    refine tri_block ?_
    refine tri_seq ?_
    refine tri_reg mixed hcx ?_ _ _
    refine mv rfl ?_
    refine asg rfl ?_
    refine ⟨by kernel_rfl, ?_⟩
    refine nx (sl 1 rfl (sl 2 rfl (sl 4 rfl (sl 5 rfl (sl 6 rfl (sl 7 rfl (sl 9 rfl (sl 34 rfl (sl 35 rfl sn))))))))) (el 10 rfl (el 11 rfl (el 319 rfl en))) ?_
    refine tri_seq ?_
    refine tri_reg mixed hcx ?_ _ _
    refine mv rfl ?_
    refine sb (((n - 1 : Nat) : Int)) rfl rfl rfl (by omega) ?_
    refine mv rfl ?_
    refine sb (((n - 1 - e : Nat) : Int)) rfl rfl rfl (by omega) ?_
    refine asg rfl ?_
    refine ⟨by kernel_rfl, ?_⟩
    refine nx (sl 1 rfl (sl 2 rfl (sl 4 rfl (sl 5 rfl (sl 6 rfl (sl 7 rfl (sl 9 rfl (sl 10 rfl (sl 34 rfl (sl 35 rfl sn)))))))))) (el 10 rfl (el 11 rfl (el 319 rfl en))) ?_
    refine tri_seq ?_
    refine tri_reg mixed hcx ?_ _ _
    refine mv rfl ?_
    refine mv rfl ?_
    refine ix rfl rfl slZs ⟨rfl, by omega⟩ ?_
    refine lf rfl tyZ ?_
    refine ca rfl (h := rat_Of (by omega)) (hn := ?_)
    refine ld rfl rfl tyTr rfl ?_
    refine mv rfl ?_
    refine cb rfl (h := t_aim h (by omega)) (hn := ?_)
    refine cb rfl (h := rv_Sub (by omega) (by omega)) (hn := ?_)
    refine mv rfl ?_
    refine ex rfl rfl ?_
    refine ex rfl rfl ?_
    refine nw 822 zeQ ?_
    refine st rfl rfl rfl tyQ rfl ?_
    refine asg rfl ?_
    refine ⟨by kernel_rfl, ?_⟩
    refine nx (sl 1 rfl (sl 2 rfl (sl 4 rfl (sl 5 rfl (sl 6 rfl (sl 7 rfl (sl 10 rfl (sl 11 rfl (sl 34 rfl (sl 35 rfl sn)))))))))) (el 10 rfl (el 11 rfl (el 319 rfl (el 822 rfl en)))) ?_
    refine tri_seq ?_
    refine tri_reg mixed hcx ?_ _ _
    refine fa rfl fTrG 0 ?_
    refine ld rfl rfl tyG rfl ?_
    refine mv rfl ?_
    refine mv rfl ?_
    refine ca rfl (h := g_Mu (k := k) (by omega) (by omega) h.good (i := n - 1 - e) (by omega) (by omega)) (hn := ?_)
    refine mv rfl ?_
    refine ex rfl rfl ?_
    refine ex rfl rfl ?_
    refine nw 918 zeQ ?_
    refine st rfl rfl rfl tyQ rfl ?_
    refine asg rfl ?_
    refine ⟨by kernel_rfl, ?_⟩
    refine nx (sl 1 rfl (sl 2 rfl (sl 4 rfl (sl 5 rfl (sl 6 rfl (sl 7 rfl (sl 11 rfl (sl 13 rfl (sl 34 rfl (sl 35 rfl sn)))))))))) (el 10 rfl (el 11 rfl (el 319 rfl (el 822 rfl (el 918 rfl en))))) ?_
    refine tri_seq ?_
    refine tri_reg mixed hcx ?_ _ _
    refine ld rfl rfl tyQ rfl ?_
    refine ld rfl rfl tyQ rfl ?_
    refine cb rfl (h := rv_Mul (by omega) (by omega)) (hn := ?_)
    refine mv rfl ?_
    refine ex rfl rfl ?_
    refine ex rfl rfl ?_
    refine st rfl rfl rfl tyQ rfl ?_
    refine ⟨by kernel_rfl, ?_⟩
    refine nx (sl 1 rfl (sl 2 rfl (sl 4 rfl (sl 5 rfl (sl 6 rfl (sl 7 rfl (sl 11 rfl (sl 34 rfl (sl 35 rfl sn))))))))) (el 10 rfl (el 11 rfl (el 319 rfl (el 822 rfl (el 918 rfl en))))) ?_
    refine tri_reg mixed hcx ?_ _ _
    refine ld rfl rfl tyQ rfl ?_
    refine ld rfl rfl tyQ rfl ?_
    refine cb rfl (h := rv_Sub (by omega) (by omega)) (hn := ?_)
    refine mv rfl ?_
    refine ex rfl rfl ?_
    refine ex rfl rfl ?_
    refine st rfl rfl rfl tyQ rfl ?_
    refine ⟨by kernel_rfl, ?_⟩
    refine pn_blk ?_
    refine nx (sl 1 rfl (sl 2 rfl (sl 4 rfl (sl 5 rfl (sl 6 rfl (sl 7 rfl (sl 34 rfl (sl 35 rfl sn)))))))) (el 10 rfl (el 11 rfl (el 319 rfl (el 822 rfl (el 918 rfl en))))) ?_
    refine tri_reg mixed hcx ?_ _ _
    refine ad (((e + 1 : Nat) : Int)) rfl rfl rfl (by omega) ?_
    refine mv rfl ?_
    refine ⟨by kernel_rfl, ?_⟩
    exact pn_back (e + 1) (by first | omega | (dsimp only; omega)) (by omega) (sl 1 rfl (sl 2 rfl (sl 4 rfl (sl 5 rfl (sl 6 rfl (sl 7 rfl (sl 34 rfl (sl 35 rfl sn)))))))) (el 10 rfl (el 11 rfl (ew 319 rfl (box_q (q_qb rfl (hQ (e + 1) (by omega)))) en)))
  · refine tri_exit ?_
    repeat (first | refine pn_then ?_ | refine pn_oth (by decide) ?_)
    refine pn_ex ?_
    have hes : e = s.length := by omega
    refine nx (sl 4 rfl (sl 7 rfl sn)) (el 10 rfl (el 11 rfl (el 319 rfl en))) ?_
    refine tri_seq ?_
    refine tri_reg mixed hcx ?_ _ _
    refine ld rfl rfl tyQ rfl ?_
    refine st rfl rfl rfl tyQ rfl ?_
    refine ⟨by kernel_rfl, ?_⟩
    refine nx (sl 4 rfl sn) (el 10 rfl (el 11 rfl (el 319 rfl en))) ?_
    refine tri_ret ?_
    repeat (first | refine pn_thenr ?_ | refine pn_blkr ?_)
    exact ret1 hcx rfl (rv_cell (c' := cx) (n := 0) rfl rfl tyQ rfl) (q_eq (by rw [hes]) (Nat.le_refl _)) en

theorem t_grown {D : List Int} {L : List (List Int)} {ts : List (Int × Int)} {a b : Int} {n k : Nat} (h : TrS D L ts n k) {p c : Rat} {x : Int} {kp kc kx d : Nat} (hd : d < n) (hkp : kp ≤ 15100000000) (hkc : kc ≤ 600000000) (hkx : kx ≤ 16777216) : Fn Tryz.prog 116 [T.Tr D L ts a b k, T.V p kp, T.V c kc, T.c (.int .i64 (d : Int)), T.Zi x kx] [] [] [] (T.Q (p + ((x : Rat) - c) * ((x : Rat) - c) * stq D (n - 1 - d)) (kp + (kx + 2 + kc + 1 + (kx + 2 + kc + 1) + (k + k)) + 1)) := by
  refine fn_of Tryz.func116 rfl (by show 5 ≤ 56; decide) fun cx hcx => ?_
  refine tri_sub (sl 0 rfl (sl 1 rfl (sl 2 rfl (sl 3 rfl (sl 4 rfl sn))))) en ?_
  have hn12 := h.twelve
  have hkk := h.hk
  have hlL := h.len
  have hn0 := h.pos
  refine tri_seq ?_
  refine tri_reg mixed hcx ?_ _ _
  refine bxs 10 rfl ?_
  refine bx 11 rfl ?_
  refine bx 12 rfl ?_
  refine bx 13 rfl ?_
  refine nw 14 zeQ ?_
  refine ⟨by kernel_rfl, ?_⟩
  refine nx (sl 3 rfl (sl 5 rfl (sl 6 rfl (sl 7 rfl (sl 9 rfl (sl 10 rfl sn)))))) (el 10 rfl (el 11 rfl (el 12 rfl (el 13 rfl (el 14 rfl en))))) ?_
  refine tri_seq ?_
  refine tri_reg mixed hcx ?_ _ _
  refine ld rfl rfl tyZ rfl ?_
  refine ca rfl (h := rat_Of (by omega)) (hn := ?_)
  refine ld rfl rfl tyQ rfl ?_
  refine cb rfl (h := rv_Sub (by omega) (by omega)) (hn := ?_)
  refine mv rfl ?_
  refine ex rfl rfl ?_
  refine ex rfl rfl ?_
  refine nw 117 zeQ ?_
  refine st rfl rfl rfl tyQ rfl ?_
  refine asg rfl ?_
  refine ⟨by kernel_rfl, ?_⟩
  refine nx (sl 3 rfl (sl 5 rfl (sl 6 rfl (sl 10 rfl (sl 11 rfl sn))))) (el 10 rfl (el 11 rfl (el 12 rfl (el 13 rfl (el 14 rfl (el 117 rfl en)))))) ?_
  refine tri_seq ?_
  refine tri_reg mixed hcx ?_ _ _
  refine ld rfl rfl tyQ rfl ?_
  refine ld rfl rfl tyQ rfl ?_
  refine cb rfl (h := rv_Mul (by omega) (by omega)) (hn := ?_)
  refine mv rfl ?_
  refine ex rfl rfl ?_
  refine ex rfl rfl ?_
  refine st rfl rfl rfl tyQ rfl ?_
  refine ⟨by kernel_rfl, ?_⟩
  refine nx (sl 3 rfl (sl 5 rfl (sl 6 rfl (sl 10 rfl (sl 11 rfl sn))))) (el 10 rfl (el 11 rfl (el 12 rfl (el 13 rfl (el 14 rfl (el 117 rfl en)))))) ?_
  refine tri_seq ?_
  refine tri_reg mixed hcx ?_ _ _
  refine fa rfl fTrG 0 ?_
  refine ld rfl rfl tyG rfl ?_
  refine fa rfl fTrG 0 ?_
  refine fa rfl fL 1 ?_
  refine ld rfl rfl tyZss rfl ?_
  refine ln slZss rfl ?_
  refine sb (((n - 1 : Nat) : Int)) rfl rfl rfl (by omega) ?_
  refine mv rfl ?_
  refine sb (((n - 1 - d : Nat) : Int)) rfl rfl rfl (by omega) ?_
  refine ca rfl (h := g_Star (k := k) (by omega) (by omega) h.good (i := n - 1 - d) (by omega)) (hn := ?_)
  refine mv rfl ?_
  refine ex rfl rfl ?_
  refine ex rfl rfl ?_
  refine nw 323 zeQ ?_
  refine st rfl rfl rfl tyQ rfl ?_
  refine asg rfl ?_
  refine ⟨by kernel_rfl, ?_⟩
  refine nx (sl 6 rfl (sl 10 rfl (sl 11 rfl (sl 13 rfl sn)))) (el 10 rfl (el 11 rfl (el 12 rfl (el 13 rfl (el 14 rfl (el 117 rfl (el 323 rfl en))))))) ?_
  refine tri_seq ?_
  refine tri_reg mixed hcx ?_ _ _
  refine ld rfl rfl tyQ rfl ?_
  refine ld rfl rfl tyQ rfl ?_
  refine cb rfl (h := rv_Mul (by omega) (by omega)) (hn := ?_)
  refine mv rfl ?_
  refine ex rfl rfl ?_
  refine ex rfl rfl ?_
  refine st rfl rfl rfl tyQ rfl ?_
  refine ⟨by kernel_rfl, ?_⟩
  refine nx (sl 6 rfl (sl 10 rfl (sl 11 rfl sn))) (el 10 rfl (el 11 rfl (el 12 rfl (el 13 rfl (el 14 rfl (el 117 rfl (el 323 rfl en))))))) ?_
  refine tri_seq ?_
  refine tri_reg mixed hcx ?_ _ _
  refine ld rfl rfl tyQ rfl ?_
  refine ld rfl rfl tyQ rfl ?_
  refine cb rfl (h := rv_Add (by omega) (by omega)) (hn := ?_)
  refine mv rfl ?_
  refine ex rfl rfl ?_
  refine ex rfl rfl ?_
  refine nw 516 zeQ ?_
  refine st rfl rfl rfl tyQ rfl ?_
  refine asg rfl ?_
  refine ⟨by kernel_rfl, ?_⟩
  refine nx (sl 10 rfl (sl 15 rfl sn)) (el 10 rfl (el 11 rfl (el 12 rfl (el 13 rfl (el 14 rfl (el 117 rfl (el 323 rfl (el 516 rfl en)))))))) ?_
  refine tri_seq ?_
  refine tri_reg mixed hcx ?_ _ _
  refine ld rfl rfl tyQ rfl ?_
  refine st rfl rfl rfl tyQ rfl ?_
  refine ⟨by kernel_rfl, ?_⟩
  refine nx (sl 10 rfl sn) (el 10 rfl (el 11 rfl (el 12 rfl (el 13 rfl (el 14 rfl (el 117 rfl (el 323 rfl (el 516 rfl en)))))))) ?_
  refine tri_ret ?_
  repeat (first | refine pn_thenr ?_ | refine pn_blkr ?_)
  exact ret1 hcx rfl (rv_cell (c' := cx) (n := 0) rfl rfl tyQ rfl) (.refl _) en

theorem t_part {D : List Int} {L : List (List Int)} {ts : List (Int × Int)} {a b : Int} {n k : Nat} (h : TrS D L ts n k) {s : List Int} (hs : s.length ≤ n) : Fn Tryz.prog 60 [T.Tr D L ts a b k, T.l (cZi k) s] [] [] [] (T.Q (ptT D L ts s (n - 1) s.length) 15100000000) := by
  refine fn_of Tryz.func60 rfl (by show 2 ≤ 29; decide) fun cx hcx => ?_
  refine tri_sub (sl 0 rfl (sl 1 rfl sn)) en ?_
  have hn12 := h.twelve
  have hkk := h.hk
  have hlL := h.len
  have hn0 := h.pos
  refine tri_lz 1 rfl fun hz => ?_
  have hQ := fun e (he : e ≤ n) => h.pt' hz (m := n - 1) (c := e) (by omega) he
  refine tri_seq ?_
  refine tri_reg mixed hcx ?_ _ _
  refine bxs 10 rfl ?_
  refine nw 11 zeQ ?_
  refine ⟨by kernel_rfl, ?_⟩
  refine nx (sl 1 rfl (sl 2 rfl (sl 4 rfl sn))) (el 10 rfl (el 11 rfl en)) ?_
  refine tri_seq ?_
  refine tri_reg mixed hcx ?_ _ _
  refine ca rfl (h := zi_Of (by omega) (by omega)) (hn := ?_)
  refine ca rfl (h := rat_Of (by omega)) (hn := ?_)
  refine nw 112 zeQ ?_
  refine st rfl rfl rfl tyQ rfl ?_
  refine ⟨by kernel_rfl, ?_⟩
  refine nx (sl 1 rfl (sl 2 rfl (sl 4 rfl (sl 5 rfl sn)))) (el 10 rfl (el 11 rfl (el 112 rfl en))) ?_
  refine tri_seq ?_
  refine tri_seq ?_
  refine tri_reg mixed hcx ?_ _ _
  refine mv rfl ?_
  refine ln slZs rfl ?_
  refine mv rfl ?_
  refine ⟨by kernel_rfl, ?_⟩
  refine nx (sl 1 rfl (sl 2 rfl (sl 4 rfl (sl 5 rfl (sl 10 rfl (sl 11 rfl sn)))))) (el 10 rfl (el 11 rfl (el 112 rfl en))) ?_
  refine tri_block ?_
  refine tri_loop (ι := Nat) (fun e => [(1, T.l (cZi k) s), (2, T.p 10 0), (4, T.p 11 0), (5, T.p 112 0), (10, T.c (.int .i64 (s.length : Int))), (11, T.c (.int .i64 (e : Int)))]) (fun e => [(10, some (Ent.box 39 [T.l (cZi k) D, T.l (cL (cZi k)) L, T.l (cQi k) ts, T.Zi a k, T.Zi b k])), (11, some (Ent.box 34 [T.c (.bool false), T.c (.slice none 0 0), T.c (.bool false), T.c (.slice none 0 0)])), (112, some (Ent.box 34 [T.Q (ptT D L ts s (n - 1) e) 15100000000]))]) (fun e => s.length - e) (fun e => (e ≤ s.length)) 0 (Nat.zero_le _) (sl 1 rfl (sl 2 rfl (sl 4 rfl (sl 5 rfl (sl 10 rfl (sl 11 rfl sn)))))) (el 10 rfl (el 11 rfl (ew 112 rfl (box_q (q_qb (by rfl) (hQ 0 (by omega)))) en))) ?_
  rintro e he
  refine tri_sub (sl 1 rfl (sl 2 rfl (sl 4 rfl (sl 5 rfl (sl 10 rfl (sl 11 rfl sn)))))) (el 10 rfl (el 11 rfl (el 112 rfl en))) ?_
  refine tri_seq ?_
  refine tri_reg mixed hcx ?_ _ _
  refine clt rfl rfl rfl ?_
  refine ⟨by kernel_rfl, ?_⟩
  refine nx (sl 1 rfl (sl 2 rfl (sl 4 rfl (sl 5 rfl (sl 10 rfl (sl 11 rfl (sl 12 rfl sn))))))) (el 10 rfl (el 11 rfl (el 112 rfl en))) ?_
  refine tri_seq ?_
  refine tri_if rfl (fun hc => ?_) (fun hc => ?_)
  · have htk : (s.take e).length = e := by rw [List.length_take]; omega
    have hCt := fn_out (t_centre (a := a) (b := b) (s := s.take e) h (by omega)) (q_eq (q' := ctT D L ts s (n - 1) (n - 1 - e) e) (by rw [htk]; exact ctT_ext fun j hj => by rw [take_getD hj]) (Nat.le_refl _))
    refine tri_skip ?_
    refine nx (sl 1 rfl (sl 2 rfl (sl 4 rfl (sl 5 rfl (sl 10 rfl (sl 11 rfl sn)))))) (el 10 rfl (el 11 rfl (el 112 rfl en))) ?_
    refine tri_seq ?_
    refine tri_block ?_
    refine tri_seq ?_
    refine tri_reg mixed hcx ?_ _ _
    refine mv rfl ?_
    refine asg rfl ?_
    refine ⟨by kernel_rfl, ?_⟩
    refine nx (sl 1 rfl (sl 2 rfl (sl 4 rfl (sl 5 rfl (sl 6 rfl (sl 10 rfl (sl 11 rfl sn))))))) (el 10 rfl (el 11 rfl (el 112 rfl en))) ?_
    refine tri_reg mixed hcx ?_ _ _
    refine ld rfl rfl tyTr rfl ?_
    refine ld rfl rfl tyQ rfl ?_
    refine ld rfl rfl tyTr rfl ?_
    refine mv rfl ?_
    refine mv rfl ?_
    refine sh rfl slZs rfl ⟨rfl, by omega⟩ ?_
    refine ca rfl (h := hCt) (hn := ?_)
    refine mv rfl ?_
    refine mv rfl ?_
    refine mv rfl ?_
    refine ix rfl rfl slZs ⟨rfl, by omega⟩ ?_
    refine lf rfl tyZ ?_
    refine cb rfl (h := t_grown h (by omega) (by omega) (by omega) (by omega)) (hn := ?_)
    refine st rfl rfl rfl tyQ rfl ?_
    refine ⟨by kernel_rfl, ?_⟩
    refine pn_blk ?_
    refine nx (sl 1 rfl (sl 2 rfl (sl 4 rfl (sl 5 rfl (sl 10 rfl (sl 11 rfl sn)))))) (el 10 rfl (el 11 rfl (el 112 rfl en))) ?_
    refine tri_reg mixed hcx ?_ _ _
    refine ad (((e + 1 : Nat) : Int)) rfl rfl rfl (by omega) ?_
    refine mv rfl ?_
    refine ⟨by kernel_rfl, ?_⟩
    exact pn_back (e + 1) (by first | omega | (dsimp only; omega)) (by omega) (sl 1 rfl (sl 2 rfl (sl 4 rfl (sl 5 rfl (sl 10 rfl (sl 11 rfl sn)))))) (el 10 rfl (el 11 rfl (ew 112 rfl (box_q (q_qb rfl (hQ (e + 1) (by omega)))) en)))
  · refine tri_exit ?_
    repeat (first | refine pn_then ?_ | refine pn_oth (by decide) ?_)
    refine pn_ex ?_
    have hes : e = s.length := by omega
    refine nx (sl 4 rfl (sl 5 rfl sn)) (el 10 rfl (el 11 rfl (el 112 rfl en))) ?_
    refine tri_seq ?_
    refine tri_reg mixed hcx ?_ _ _
    refine ld rfl rfl tyQ rfl ?_
    refine st rfl rfl rfl tyQ rfl ?_
    refine ⟨by kernel_rfl, ?_⟩
    refine nx (sl 4 rfl sn) (el 10 rfl (el 11 rfl (el 112 rfl en))) ?_
    refine tri_ret ?_
    repeat (first | refine pn_thenr ?_ | refine pn_blkr ?_)
    exact ret1 hcx rfl (rv_cell (c' := cx) (n := 0) rfl rfl tyQ rfl) (q_eq (by rw [hes]) (Nat.le_refl _)) en

theorem t_fits {D : List Int} {L : List (List Int)} {ts : List (Int × Int)} {a b : Int} {n k : Nat} (h : TrS D L ts n k) {s : List Int} (hb : 0 < b) (ha : 0 ≤ a) {m : Nat} (hs : s.length ≤ m) (hsl : s.length ≤ 1048576) : Fn Tryz.prog 59 [T.Tr D L ts a b k, T.l (cZi k) s, T.c (.int .i64 (m : Int))] [] [] [] (T.c (.int .i64 0)) := by
  refine fn_of Tryz.func59 rfl (by show 3 ≤ 17; decide) fun cx hcx => ?_
  refine tri_sub (sl 0 rfl (sl 1 rfl (sl 2 rfl sn))) en ?_
  refine tri_seq ?_
  refine tri_reg mixed hcx ?_ _ _
  refine bxs 10 rfl ?_
  refine asg rfl ?_
  refine ⟨by kernel_rfl, ?_⟩
  refine nx (sl 1 rfl (sl 2 rfl (sl 3 rfl sn))) (el 10 rfl en) ?_
  refine tri_seq ?_
  refine tri_seq ?_
  refine tri_reg mixed hcx ?_ _ _
  refine ld rfl rfl tyTr rfl ?_
  refine ca rfl (h := t_Valid h hb ha) (hn := ?_)
  refine asg rfl ?_
  refine ⟨by kernel_rfl, ?_⟩
  refine nx (sl 1 rfl (sl 2 rfl (sl 7 rfl sn))) (el 10 rfl en) ?_
  refine tri_seq ?_
  refine tri_reg mixed hcx ?_ _ _
  refine mv rfl ?_
  refine cne rfl rfl (decide_eq_false (by omega)) ?_
  refine ⟨by kernel_rfl, ?_⟩
  refine nx (sl 1 rfl (sl 2 rfl (sl 7 rfl (sl 11 rfl sn)))) (el 10 rfl en) ?_
  refine tri_false rfl rfl ?_
  refine tri_skip ?_
  refine nx (sl 1 rfl (sl 2 rfl sn)) (el 10 rfl en) ?_
  refine tri_seq ?_
  refine tri_seq ?_
  refine tri_reg mixed hcx ?_ _ _
  refine mv rfl ?_
  refine ln slZs rfl ?_
  refine mv rfl ?_
  refine cgt rfl rfl (decide_eq_false (by omega)) ?_
  refine ⟨by kernel_rfl, ?_⟩
  refine nx (sl 16 rfl sn) (el 10 rfl en) ?_
  refine tri_false rfl rfl ?_
  refine tri_skip ?_
  refine nx sn (el 10 rfl en) ?_
  refine tri_seq ?_
  refine tri_reg mixed hcx ?_ _ _
  refine asg rfl ?_
  refine ⟨by kernel_rfl, ?_⟩
  refine nx (sl 6 rfl sn) (el 10 rfl en) ?_
  refine tri_ret ?_
  repeat (first | refine pn_thenr ?_ | refine pn_blkr ?_)
  exact ret1 hcx rfl (rv_tmp rfl) (.refl _) en

end Go.Proofs.YtekghdfbhbhigaaGreat.V
/- A logic of calls: a range over a function. -/
set_option linter.unusedVariables false
set_option linter.unusedSimpArgs false
namespace Go.Proofs.YtekghdfbhbhigaaGreat.V
open Go.RowKit

theorem lkE_cons (e : Nat) (X : Option Ent) (E : List (Nat × Option Ent)) (f : Nat) : lkE ((e, X) :: E) f = if e = f then X else lkE E f := by
  unfold lkE
  rw [lk_cons]
  by_cases h : e = f
  · rw [if_pos h, if_pos h]; rfl
  · rw [if_neg h, if_neg h]
theorem Tr.weak {C D : Nat → Prop} {u w u' w' : World} (h : Tr C u w u' w') (hc : ∀ k, C k → D k) : Tr D u w u' w' :=
  ⟨h.os, h.tape, h.output, h.size, fun k hk hd => h.block k hk (fun h' => hd (hc k h')), h.old, h.sub, fun k hk hd => h.dead k hk (fun h' => hd (hc k h'))⟩
/-- Memory of another's, without names. -/
structure Ent0 where
  hold : World → World → (Nat → Prop) → Prop
  mono : ∀ {u u' w F}, Sub u u' → hold u w F → hold u' w F
  loc : ∀ {u w w' F}, (∀ k, F k → w'.heap[k]? = w.heap[k]?) → hold u w F → hold u w' F
def Ent.ab (z : Ent0) : Ent := ⟨[], fun _ u w _ F => z.hold u w F, fun hs h => z.mono hs h, fun _ h => h, fun hl h => z.loc hl h⟩
/-- One block that holds no cells. -/
def Ent.ob (k : Nat) (o : Obj) : Ent := ⟨[], fun _ _ w _ F => (∀ q, F q ↔ q = k) ∧ w.heap[k]? = some o, fun _ h => h, fun _ h => h, fun hl h => ⟨h.1, (hl k ((h.1 k).2 rfl)).trans h.2⟩⟩
/-- A call of yield: what the other party does in between. -/
def YOk (P : Program) (l : Nat) (X : T) (z : Ent0) (b : Bool) (z' : Ent0) : Prop := ∀ v u w (F : Nat → Prop), Sub u w → X.rep B0 u v → z.hold u w F → (∀ k, F k → Dead u k ∧ k < w.heap.size) →
  ∃ fn tmps ac bd, (Instr.yield l #[v]).run P w = .ok (.round l fn tmps ac bd) w ∧ RoundIn Fence.wide 0 P l fn tmps ac bd w fun e w' => e = .returned (.bool b) ∧ ∃ u' F', Tr F u w u' w' ∧ z'.hold u' w' F' ∧ (∀ k, F' k → Dead u' k ∧ k < w'.heap.size) ∧ ∀ k, F' k → F k ∨ w.heap.size ≤ k
section
variable {P : Program} {ops : Array Oper} {fin : List OpS → List (Nat × T) → List (Nat × Option Ent) → Prop} {r : List Oper} {H : List OpS} {g : List (Nat × T)} {E : List (Nat × Option Ent)} {o : Oper}
variable {t : Option Nat} {ty : TypeId} {ps : String} {af : Array Edge} {gd : Option (Nat × Bool)} {x y : Operand} {X Y : T} {e : Nat}
/-- yield is called. -/
theorem yd {l : Nat} {tys : Array TypeId} {z z' : Ent0} {b : Bool} (hX : envl g x = some (T.c (.func (.yield l) #[] #[]))) (hY : envl g y = some Y) (hE : lkE E e = some (Ent.ab z)) (h : YOk P l X z b z') (hl : Y.le X)
    (hn : J P ops fin r (⟨[], [e], [(e, Ent.ab z')], [], T.c (.bool b)⟩ :: H) (putg t (T.c (.bool b)) g) ((e, some (Ent.ab z')) :: E)) (h0 : X.ns = [] := by rfl)
    (hg : GuardIs ops g ⟨t, .call ⟨.value x, #[y], tys⟩, ty, ps, af, gd⟩ true := by exact gd0) : J P ops fin (⟨t, .call ⟨.value x, #[y], tys⟩, ty, ps, af, gd⟩ :: r) H g E :=
  j_set hE hg (fun ρ β u w F hs he hH => by
    have hx : ρ x = .func (.yield l) #[] #[] := he x (show x ∈ (#[x] ++ #[y] : Array Operand) from by simp) _ hX
    have hy := he y (show y ∈ (#[x] ++ #[y] : Array Operand) from by simp) _ hY
    obtain ⟨fn, tmps, ac, bd, h1, h2⟩ := h (ρ y) u w (F e) hs (X.ext (fun n hn => by rw [h0] at hn; cases hn) (hl _ _ _ hy)) (hH.hold e _ lk1_same) (fun k hk => hH.dead e _ k lk1_same hk)
    unfold Res
    rw [show (execOp ρ ⟨t, .call ⟨.value x, #[y], tys⟩, ty, ps, af, gd⟩).run P w = .ok (.round l fn tmps ac bd) w from by
      simp only [execOp, resolve, hx, Deferred.ofValue, Sem.run_bind, Sem.run_pure, Result.andThen_ok, invoke, List.map_toArray, List.map_cons, List.map_nil]
      simpa using h1]
    refine h2.mono fun e' w' ⟨he', u', F', ht, hz, hd, hf⟩ => ⟨_, he', u', β, fun _ => F', fun _ _ => rfl, ht.weak (fun k hk => ⟨e, List.mem_cons_self, hk⟩), hold1 hz hd, fun f X k hf' hk => ?_, rfl⟩
    rcases hf k hk with h | h
    · exact .inl ⟨e, List.mem_cons_self, h⟩
    · exact .inr h) hn
end
section
variable {c : Ctx} {n : Nat} {g : List (Nat × T)} {E : List (Nat × Option Ent)} {a : Act} {w : World}
theorem cell_put {w : World} {k : Nat} {o : Obj} {p : Addr} (h : p.block ≠ k) : (w.putObj k o).cell? p = w.cell? p := World.cell?_of_block (World.putObj_heap_other h)
/-- A block that holds no cells is turned. -/
theorem InSt.putOb {k : Nat} {o : Obj} (e : Nat) (hE : lkE E e = some (Ent.ob k o)) (h : InSt c n g E a w) (o' : Obj) : InSt c n g ((e, some (Ent.ob k o')) :: E) a (w.putObj k o') := by
  obtain ⟨β, u, F, h1, h2, h3, h4, h5, h6, h7⟩ := h
  obtain ⟨k1, k2⟩ := h4.hold e _ hE
  have hk : F e k := (k1 k).2 rfl
  obtain ⟨d1, d2⟩ := h4.dead e _ k hE hk
  have hlk := lkE_cons e (some (Ent.ob k o')) E
  have cas : ∀ f X, lkE ((e, some (Ent.ob k o')) :: E) f = some X → (f = e ∧ X = Ent.ob k o') ∨ (f ≠ e ∧ lkE E f = some X) := fun f X hX => by
    rw [hlk] at hX
    by_cases hf : e = f
    · rw [if_pos hf] at hX; cases hX; exact .inl ⟨hf.symm, rfl⟩
    · rw [if_neg hf] at hX; exact .inr ⟨Ne.symm hf, hX⟩
  have old : ∀ f X, lkE ((e, some (Ent.ob k o')) :: E) f = some X → ∃ Y, lkE E f = some Y := fun f X hX => by
    rcases cas f X hX with ⟨rfl, _⟩ | ⟨_, h⟩
    · exact ⟨_, hE⟩
    · exact ⟨_, h⟩
  refine ⟨β, u, F, h1, h2, h3, ⟨fun f X hX => ?_, fun f X q hX hq => ?_, fun f f' X Y q hX hY hne hq => ?_⟩, ⟨h5.os, h5.tape, h5.output, by simpa using h5.size, fun b hb hc => ?_, h5.old, fun p v hp => ?_, h5.dead⟩, fun f X q hX hq => ?_, h7⟩
  · rcases cas f X hX with ⟨rfl, rfl⟩ | ⟨hne, hX'⟩
    · exact ⟨k1, World.putObj_heap_same d2⟩
    · exact X.loc (fun q hq => World.putObj_heap_other (fun e1 => h4.apart f e X _ q hX' hE hne hq (e1 ▸ hk))) (h4.hold f X hX')
  · obtain ⟨Y, hY⟩ := old f X hX
    have := h4.dead f Y q hY hq
    exact ⟨this.1, by simpa using this.2⟩
  · obtain ⟨Z, hZ⟩ := old f X hX
    obtain ⟨Z', hZ'⟩ := old f' Y hY
    exact h4.apart f f' Z Z' q hZ hZ' hne hq
  · rw [World.putObj_heap_other, h5.block b hb hc]
    rintro rfl
    rcases h6 e _ b hE hk with h | h
    · exact hc h
    · omega
  · by_cases hb : p.block = k
    · rw [d1 p hb] at hp; cases hp
    · rw [cell_put hb]; exact h5.sub p v hp
  · obtain ⟨Y, hY⟩ := old f X hX
    exact h6 f Y q hY hq
/-- A block that holds no cells is laid. -/
theorem InSt.newOb (e : Nat) (o : Obj) (h : InSt c n g E a w) : InSt c n g ((e, some (Ent.ob w.heap.size o)) :: E) a (w.alloc o) := by
  obtain ⟨β, u, F, h1, h2, h3, h4, h5, h6, h7⟩ := h
  have hs := h5.sub
  have hlk := lkE_cons e (some (Ent.ob w.heap.size o)) E
  have cas : ∀ f X, lkE ((e, some (Ent.ob w.heap.size o)) :: E) f = some X → (f = e ∧ X = Ent.ob w.heap.size o) ∨ (f ≠ e ∧ lkE E f = some X) := fun f X hX => by
    rw [hlk] at hX
    by_cases hf : e = f
    · rw [if_pos hf] at hX; cases hX; exact .inl ⟨hf.symm, rfl⟩
    · rw [if_neg hf] at hX; exact .inr ⟨Ne.symm hf, hX⟩
  have ht := tr_alloc (C := fun _ => False) hs o
  refine ⟨β, u, fun f q => if f = e then q = w.heap.size else F f q, h1, h2, h3, ⟨fun f X hX => ?_, fun f X q hX hq => ?_, fun f f' X Y q hX hY hne hq => ?_⟩, h5.trans ht (fun _ h => h.elim), fun f X q hX hq => ?_, h7⟩
  · rcases cas f X hX with ⟨rfl, rfl⟩ | ⟨hne, hX'⟩
    · simp only [if_true]
      exact ⟨fun q => Iff.rfl, World.alloc_heap_new w o⟩
    · simp only [if_neg hne]
      exact X.loc (fun q hq => ht.block q (h4.dead f X q hX' hq).2 (fun h => h)) (h4.hold f X hX')
  · rcases cas f X hX with ⟨rfl, rfl⟩ | ⟨hne, hX'⟩
    · simp only [if_true] at hq
      subst hq
      exact ⟨dead_new hs (Nat.le_refl _), by simp⟩
    · simp only [if_neg hne] at hq
      have := h4.dead f X q hX' hq
      exact ⟨this.1, Nat.lt_of_lt_of_le this.2 ht.size⟩
  · rcases cas f X hX with ⟨rfl, rfl⟩ | ⟨hf, hX'⟩ <;> rcases cas f' Y hY with ⟨rfl, rfl⟩ | ⟨hf', hY'⟩
    · exact absurd rfl hne
    · simp only [if_true, if_neg hf'] at hq ⊢
      intro h
      have := (h4.dead f' Y q hY' h).2
      omega
    · simp only [if_true, if_neg hf] at hq ⊢
      intro h
      have := (h4.dead f X q hX' hq).2
      omega
    · simp only [if_neg hf, if_neg hf'] at hq ⊢
      exact h4.apart f f' X Y q hX' hY' hne hq
  · rcases cas f X hX with ⟨rfl, rfl⟩ | ⟨hne, hX'⟩
    · simp only [if_true] at hq
      subst hq
      exact .inr h5.size
    · simp only [if_neg hne] at hq
      exact h6 f X q hX' hq
end
/-- One's own, laid by for the time that another's code runs. -/
def Pk (β0 : Env) (S : List Nat) (tmps : Array Value) (G : List (Nat × T)) (M : List (Nat × Option Ent)) : Ent0 where
  hold u w F := ∃ (β : Env) (Fs : FP), (∀ e ∈ S, β e = β0 e) ∧ (∀ t X, lk G t = some X → ∃ v, tmps[t]? = some v ∧ X.rep β u v) ∧ (∀ e X, lkE M e = some X → X.hold β u w (β e) (Fs e)) ∧
    (∀ e f X Y k, lkE M e = some X → lkE M f = some Y → e ≠ f → Fs e k → ¬ Fs f k) ∧ ∀ k, F k ↔ ∃ e X, lkE M e = some X ∧ Fs e k
  mono := fun hs ⟨β, Fs, h1, h2, h3, h4, h5⟩ => ⟨β, Fs, h1, fun t X h => let ⟨v, k1, k2⟩ := h2 t X h; ⟨v, k1, X.mono hs k2⟩, fun e X h => X.mono hs (h3 e X h), h4, h5⟩
  loc := fun hl ⟨β, Fs, h1, h2, h3, h4, h5⟩ => ⟨β, Fs, h1, h2, fun e X h => X.loc (fun k hk => hl k ((h5 k).2 ⟨e, X, h, hk⟩)) (h3 e X h), h4, h5⟩
/-- A round begins. -/
def BR (P : Program) (l : Nat) (bd : Code) (r : Option Nat) (Q : Exit → Act → World → Prop) (a : Act) (w : World) : Prop := ∃ w2, (Instr.beginRound l).run P w = .ok () w2 ∧ bd.wpIn (Fc r) 0 P Q a w2
/-- How a round may end: by which jump; in which state. -/
def RQ (c : Ctx) (n : Nat) (pd : Option Code) (M : List (Nat × Option Ent)) (e : Exit) (a : Act) (w : World) : Prop :=
  (match e with | .normal => pd = none | .ret => pd = some .ret | .exit id => pd = some (.exit id) | _ => False) ∧ InSt c n [] M a w
def RecO (r : Loop) (s : LoopState) (pd : Option Code) : Obj := .loop { r with state := s, pending := pd }
section
variable {P : Program} {c : Ctx} {n : Nat} {g g' : List (Nat × T)} {E E' : List (Nat × Option Ent)} {Q : Exit → Act → World → Prop}
theorem nx_begin {l : Nat} {r : Loop} {bd : Code} (hrd : c.rd = some l) (hE0 : lkE E 702 = some (Ent.ob l (RecO r .ready none))) (hg : SubG g' g) (hE : SubE E' ((702, some (Ent.ob l (RecO r .busy none))) :: E)) (h : Tri P bd Q c n g' E') {Q' : Exit → Act → World → Prop} : PN c n (Exit.then (BR P l bd (some l) Q) Q' .normal) g E := fun a w hS => by
  have hr : w.heap[l]? = some (RecO r .ready none) := by
    obtain ⟨β, u, F, h1, h2, h3, h4, h5, h6, h7⟩ := hS
    exact (h4.hold 702 (Ent.ob l (RecO r .ready none)) hE0).2
  exact ⟨_, run_beginRound hr rfl, by rw [← hrd]; exact h a _ ((hS.putOb 702 hE0 (RecO r .busy none)).sub hg hE)⟩
theorem rq_go {M : List (Nat × Option Ent)} (hE : SubE M E) : PN c n (RQ c n none M .normal) g E := fun a w hS => ⟨rfl, hS.sub sn hE⟩
theorem rq_ret {M : List (Nat × Option Ent)} (hE : SubE M E) : PN c n (RQ c n (some .ret) M .ret) g E := fun a w hS => ⟨rfl, hS.sub sn hE⟩
/-- What is one's own becomes another's concern. -/
theorem pk_of {β β0 : Env} {S : List Nat} {tmps : Array Value} {G : List (Nat × T)} {M : List (Nat × Option Ent)} {u w : World} {Fs : FP} (h1 : ∀ e ∈ S, β e = β0 e) (h2 : ∀ t X, lk G t = some X → ∃ v, tmps[t]? = some v ∧ X.rep β u v) (h : Hold β u w Fs (lkE M)) :
    (Pk β0 S tmps G M).hold u w (fun k => ∃ e X, lkE M e = some X ∧ Fs e k) := ⟨β, Fs, h1, h2, h.hold, h.apart, fun k => Iff.rfl⟩
def dfr : Obj := .deferred (some [])
def st2 (pd : Option Code) : LoopState := if pd.isNone then .ready else .done
/-- A round: the loop's own side. -/
theorem yok_round {β0 : Env} {S : List Nat} {tmps : Array Value} {G : List (Nat × T)} {M M' : List (Nat × Option Ent)} {l p : Nat} {r : Loop} {X : T} {pd : Option Code} (hps : r.params = #[p]) (ht : r.tmps = tmps) (hn : tmps.size = n) (hp : p < n) (h0 : X.ns = []) (hS : ∀ e ∈ nsOf G, e ∈ S)
    (h : ∀ c : Ctx, c.rd = some l → c.df = [] → c.I = S → Tri P r.assign (Exit.then (BR P l r.body (some l) (RQ c n pd ((702, some (Ent.ob l (RecO r .busy none))) :: M'))) (fun _ _ _ => False)) c n ((p, X) :: G) ((702, some (Ent.ob l (RecO r .ready none))) :: M)) :
    YOk P l X (Pk β0 S tmps G ((702, some (Ent.ob l (RecO r .ready none))) :: M)) pd.isNone (Pk β0 S tmps G ((702, some (Ent.ob l (RecO r (st2 pd) pd))) :: M')) := fun v u w F hs hv ⟨β, Fs, k1, k2, k3, k4, k5⟩ hd => by
  have hr : w.heap[l]? = some (RecO r .ready none) := (k3 702 (Ent.ob l (RecO r .ready none)) (by rw [lkE_cons, if_pos rfl])).2
  refine ⟨_, _, _, _, run_yield hr (by simp [hps]), roundIn_of_wpIn trivial ?_⟩
  let c : Ctx := ⟨w, u, F, β, S, [], some l⟩
  have hst : InSt c n ((p, X) :: G) ((702, some (Ent.ob l (RecO r .ready none))) :: M) { tmps := tmps.setIfInBounds p v, defers := [] } w := by
    refine ⟨β, u, Fs, rfl, by simpa using hn, fun t Y hY => ?_, ⟨k3, fun e Y k hY hk => hd k ((k5 k).2 ⟨e, Y, hY, hk⟩), k4⟩, Tr.refl hs, fun e Y k hY hk => .inl ((k5 k).2 ⟨e, Y, hY, hk⟩), fun _ _ => rfl⟩
    rw [lk_cons] at hY
    by_cases ht : p = t
    · subst ht
      rw [if_pos rfl] at hY
      cases hY
      exact ⟨v, by simp [hn, hp], X.ext (fun e he => by rw [h0] at he; cases he) hv⟩
    · rw [if_neg ht] at hY
      obtain ⟨y, q1, q2⟩ := k2 t Y hY
      exact ⟨y, by rw [Array.getElem?_setIfInBounds_ne ht]; exact q1, q2⟩
  have hw := h c rfl rfl rfl _ w hst
  have e1 : ((r.params.zip #[v]).foldl (fun tmps (t, a) => tmps.setIfInBounds t a) r.tmps) = tmps.setIfInBounds p v := by rw [hps, ht]; simp
  show r.assign.wpIn _ 0 P _ { tmps := ((r.params.zip #[v]).foldl (fun tmps (t, a) => tmps.setIfInBounds t a) r.tmps), defers := [] } w
  rw [e1]
  refine wpIn_mono hw fun e a1 w1 hq => ?_
  cases e with
  | normal =>
    obtain ⟨w2, hb, hbd⟩ := hq
    refine ⟨w2, hb, wpIn_mono hbd fun e a2 w3 hq => ?_⟩
    obtain ⟨he, hS2⟩ := hq
    have hr2 : w3.heap[l]? = some (RecO r .busy none) := by
      obtain ⟨β, u, F, h1, h2, h3, h4, h5, h6, h7⟩ := hS2
      exact (h4.hold 702 (Ent.ob l (RecO r .busy none)) (by rw [lkE_cons, if_pos rfl])).2
    have fin : ∀ jp, jp = pd → ∃ v w', (Instr.endRound l jp).run P w3 = .ok v w' ∧ ((Ending.returned v) = .returned (.bool pd.isNone) ∧ ∃ u' F', Tr F u w u' w' ∧ (Pk β0 S tmps G ((702, some (Ent.ob l (RecO r (st2 pd) pd))) :: M')).hold u' w' F' ∧ (∀ k, F' k → Dead u' k ∧ k < w'.heap.size) ∧ ∀ k, F' k → F k ∨ w.heap.size ≤ k) := fun jp hjp => by
      subst hjp
      refine ⟨_, _, run_endRound jp hr2, rfl, ?_⟩
      have hS3 := hS2.putOb 702 (by rw [lkE_cons, if_pos rfl]) (RecO r (st2 jp) jp)
      obtain ⟨β', u', F', g1, g2, g3, g4, g5, g6, g7⟩ := hS3
      have hl : ∀ e X, lkE ((702, some (Ent.ob l (RecO r (st2 jp) jp))) :: M') e = some X → lkE ((702, some (Ent.ob l (RecO r (st2 jp) jp))) :: (702, some (Ent.ob l (RecO r .busy none))) :: M') e = some X := fun e X h => by
        rw [lkE_cons] at h ⊢
        by_cases h7 : 702 = e
        · rw [if_pos h7] at h ⊢; exact h
        · rw [if_neg h7] at h ⊢; rw [lkE_cons, if_neg h7]; exact h
      refine ⟨u', fun k => ∃ e X, lkE ((702, some (Ent.ob l (RecO r (st2 jp) jp))) :: M') e = some X ∧ F' e k, g5, pk_of (fun e he => (g7 e he).trans (k1 e he)) (fun t Y hY => ?_) ⟨fun e X h => g4.hold e X (hl e X h), fun e X k h hk => g4.dead e X k (hl e X h) hk, fun e f X Y k h h' hne hk => g4.apart e f X Y k (hl e X h) (hl f Y h') hne hk⟩, fun k ⟨e, X, h, hk⟩ => g4.dead e X k (hl e X h) hk, fun k ⟨e, X, h, hk⟩ => g6 e X k (hl e X h) hk⟩
      obtain ⟨y, q1, q2⟩ := k2 t Y hY
      exact ⟨y, q1, Y.mono g5.old (Y.ext (fun e he => g7 e (hS e (lk_base hY e he))) q2)⟩
    cases e with
    | normal => exact fin none he.symm
    | ret => exact fin (some .ret) he.symm
    | exit id => exact fin (some (.exit id)) he.symm
    | goto t => exact he.elim
    | panic ch => exact he.elim
    | outgrown => exact he.elim
  | _ => exact hq.elim
theorem InSt.congr {a : Act} {w : World} (h : InSt c n g E a w) (he : ∀ e, lkE E' e = lkE E e) : InSt c n g E' a w := by
  unfold InSt at *
  rw [show lkE E' = lkE E from funext he]
  exact h
def Ctx.put (c : Ctx) (D : Nat) : Ctx := { c with df := { target := .collected D, args := #[] } :: c.df }
def pdo {ι κ : Type} (pd : κ → Code) : ι ⊕ κ → Option Code
  | .inl _ => none
  | .inr q => some (pd q)
def isL {ι κ : Type} : ι ⊕ κ → Bool
  | .inl _ => true
  | .inr _ => false
def Done {ι κ : Type} (P : Program) (Q : Exit → Act → World → Prop) (c : Ctx) (n : Nat) (g : List (Nat × T)) (M : ι → List (Nat × Option Ent)) (N : κ → List (Nat × Option Ent)) (pd : κ → Code) : ι ⊕ κ → List (Nat × Option Ent) → Prop
  | .inl i, E => PN c n (Q .normal) g (E ++ M i)
  | .inr q, E => Tri P (pd q) Q c n g (E ++ N q)
theorem done_go {ι κ : Type} {M : ι → List (Nat × Option Ent)} {N : κ → List (Nat × Option Ent)} {pd : κ → Code} {i : ι} (h : PN c n (Q .normal) g (E ++ M i)) : Done P Q c n g M N pd (.inl i) E := h
theorem done_stop {ι κ : Type} {M : ι → List (Nat × Option Ent)} {N : κ → List (Nat × Option Ent)} {pd : κ → Code} {q : κ} (h : Tri P (pd q) Q c n g (E ++ N q)) : Done P Q c n g M N pd (.inr q) E := h
/-- The loop: what goes on between the rounds; by whom the rounds are called. -/
theorem tri_range {ι κ : Type} {f : FuncId} {Caps : List T} {t p : Nat} {ac bd : Code} {I : List Nat} {R : T} (M : ι → List (Nat × Option Ent)) (N : κ → List (Nat × Option Ent)) (pd : κ → Code) (stp : ι → T → ι ⊕ κ → Prop) (i0 : ι) (fin : ι ⊕ κ)
    (hrd : c.rd = none) (hI : c.I = I) (hX : lk g t = some (T.fn f Caps)) (hen : Enters P f) (hp : p < n) (hg : SubG g' g) (hE : SubE (M i0) ((702, none) :: (701, none) :: E))
    (hit : ∀ (l : Nat) (Z : ι → Ent0) (Y : κ → Ent0), (∀ i X o, stp i X o → YOk P l X (Z i) (isL o) (Sum.elim Z Y o)) → Fn P f (T.c (.func (.yield l) #[] #[]) :: Caps) [(700, Ent.ab (Z i0))] [(700, Ent.ab (Sum.elim Z Y fin))] [] R)
    (hns : ∀ i X o, stp i X o → X.ns = [])
    (hbody : ∀ (l D : Nat) (r : Loop) (c' : Ctx), c'.rd = some l → c'.df = [] → c'.I = I ++ nsOf g' → ∀ i X o, stp i X o → Tri P ac (Exit.then (BR P l bd (some l) (RQ c' n (pdo pd o) ((702, some (Ent.ob l (RecO r .busy none))) :: (701, some (Ent.ob D dfr)) :: Sum.elim M N o))) (fun _ _ _ => False)) c' n ((p, X) :: g') ((702, some (Ent.ob l (RecO r .ready none))) :: (701, some (Ent.ob D dfr)) :: M i))
    (hdone : ∀ (l D : Nat) (o : Obj), Done P Q (c.put D) n g' M N pd fin [(702, some (Ent.ob l o)), (701, some (Ent.ob D dfr))]) : Tri P (.rangeFunc (.tmp t) #[p] ac bd) Q c n g E := fun a w hS => by
  have hF : Fc c.rd = Fence.wide := by rw [hrd]; rfl
  show (Code.rangeFunc (.tmp t) #[p] ac bd).wpIn (Fc c.rd) 0 P Q a w
  rw [hF]
  refine wpIn_rangeFunc fun fn _ => ?_
  let r : Loop := { state := .ready, pending := none, fn := fn, tmps := a.tmps, params := #[p], assign := ac, body := bd, defers := w.heap.size }
  have hS1 := (hS.newOb 701 dfr).newOb 702 (RecO r .ready none)
  obtain ⟨D, hD⟩ : ∃ D, w.heap.size = D := ⟨_, rfl⟩
  obtain ⟨l, hl⟩ : ∃ l, (w.alloc dfr).heap.size = l := ⟨_, rfl⟩
  rw [hD, hl] at hS1
  obtain ⟨w1, hw1⟩ : ∃ w1, (w.alloc dfr).alloc (RecO r .ready none) = w1 := ⟨_, rfl⟩
  rw [hw1] at hS1
  obtain ⟨β, u, F, h1, h2, h3, h4, h5, h6, h7⟩ := hS1
  obtain ⟨v, hv1, cs, hv2, hv3⟩ := h3 t _ hX
  let ZE : ι ⊕ κ → List (Nat × Option Ent) := fun o => (702, some (Ent.ob l (RecO r (st2 (pdo pd o)) (pdo pd o)))) :: (701, some (Ent.ob D dfr)) :: Sum.elim M N o
  let Z0 : ι ⊕ κ → Ent0 := fun o => Pk β (I ++ nsOf g') a.tmps g' (ZE o)
  have hyok : ∀ i X o, stp i X o → YOk P l X (Z0 (.inl i)) (isL o) (Sum.elim (fun i => Z0 (.inl i)) (fun q => Z0 (.inr q)) o) := fun i X o hst => by
    have := yok_round (P := P) (n := n) (β0 := β) (S := I ++ nsOf g') (tmps := a.tmps) (G := g') (M := (701, some (Ent.ob D dfr)) :: M i) (M' := (701, some (Ent.ob D dfr)) :: Sum.elim M N o) (l := l) (p := p) (r := r) (X := X) (pd := pdo pd o) rfl rfl h2 hp (hns i X o hst) (fun e he => List.mem_append_right _ he) (fun c' q1 q2 q3 => hbody l D r c' q1 q2 q3 i X o hst)
    cases o with
    | inl i' => exact this
    | inr q => exact this
  have hcall := hit l (fun i => Z0 (.inl i)) (fun q => Z0 (.inr q)) hyok
  have hlk : ∀ e X, lkE (ZE (.inl i0)) e = some X → ∃ Y, lkE ((702, some (Ent.ob l (RecO r .ready none))) :: (701, some (Ent.ob D dfr)) :: E) e = some Y ∧ Y.le X := fun e X h => by
    have h' : lkE ((702, some (Ent.ob l (RecO r .ready none))) :: (701, some (Ent.ob D dfr)) :: M i0) e = some X := h
    rw [lkE_cons] at h' ⊢
    by_cases q : 702 = e
    · rw [if_pos q] at h' ⊢; exact ⟨_, h', .refl _⟩
    · rw [if_neg q, lkE_cons] at h' ⊢
      by_cases q2 : 701 = e
      · rw [if_pos q2] at h' ⊢; exact ⟨_, h', .refl _⟩
      · rw [if_neg q2] at h' ⊢
        obtain ⟨Y, y1, y2⟩ := subE_lk hE h'
        rw [lkE_cons, if_neg q, lkE_cons, if_neg q2] at y1
        exact ⟨Y, y1, y2⟩
  have hold0 : Hold β u w1 F (lkE (ZE (.inl i0))) := ⟨fun e X h => by obtain ⟨Y, y1, y2⟩ := hlk e X h; exact y2 _ _ _ _ _ (h4.hold e Y y1), fun e X k h hk => by obtain ⟨Y, y1, y2⟩ := hlk e X h; exact h4.dead e Y k y1 hk,
    fun e f X Y k h h' hne hk => by obtain ⟨X1, y1, _⟩ := hlk e X h; obtain ⟨Y1, y2, _⟩ := hlk f Y h'; exact h4.apart e f X1 Y1 k y1 y2 hne hk⟩
  have hg3 : ∀ t X, lk g' t = some X → ∃ v, a.tmps[t]? = some v ∧ X.rep β u v := fun t X h => by
    obtain ⟨Y, y1, y2⟩ := subG_lk hg h
    obtain ⟨v, y3, y4⟩ := h3 t Y y1
    exact ⟨v, y3, y2 _ _ _ y4⟩
  have hpk := pk_of (S := I ++ nsOf g') (β0 := β) (fun _ _ => rfl) hg3 hold0
  have hfz : ∀ k, (∃ e X, lkE (ZE (.inl i0)) e = some X ∧ F e k) → c.own k ∨ c.w0.heap.size ≤ k := fun k ⟨e, X, h, hk⟩ => by
    obtain ⟨Y, y1, _⟩ := hlk e X h
    exact h6 e Y k y1 hk
  have hrun := hcall (.func (.yield l) #[] #[] :: cs) β u w1 (fun _ k => ∃ e X, lkE (ZE (.inl i0)) e = some X ∧ F e k) h5.sub ⟨rfl, hv3⟩ (hold1 (e := 700) (X := Ent.ab (Z0 (.inl i0))) hpk (fun k ⟨e, X, h, hk⟩ => hold0.dead e X k h hk))
  refine ⟨l, [{ target := .collected D, args := #[] }], w1, { target := .fn (.func f) cs.toArray, args := #[.func (.yield l) #[] #[]] }, w1, f, (.func (.yield l) #[] #[] :: cs).toArray, w1, ?_, ?_, fun f' _ => trivial, ?_, fun hd => absurd hd (by decide), callsIn_wide.2 (hrun.mono fun e w3 he => ?_)⟩
  · have := run_enterLoop_outer (P := P) (w := w) fn a.tmps #[p] ac bd
    rw [← hw1, ← hD, ← hl, show (w.alloc dfr).heap.size = w.heap.size + 1 from by simp]
    exact this
  · simp [resolve, rangeCall, Act.eval, hv1, hv2, Deferred.ofValue]
  · show (callFunc f (#[.func (.yield l) #[] #[]] ++ cs.toArray)).run P w1 = _
    rw [hen]
    congr 2
    apply Array.ext'; simp
  obtain ⟨v', rfl, u', β', F', b1, b2, b3, b4, b5⟩ := he
  obtain ⟨β2, Fs2, s1, s2, s3, s4, s5⟩ : (Z0 fin).hold u' w3 (F' 700) := by
    have := b3.hold 700 _ lk1_same
    cases fin with
    | inl i => exact this
    | inr q => exact this
  have hlast : ∀ o : Obj, InSt (c.put D) n g' ((702, some (Ent.ob l o)) :: (701, some (Ent.ob D dfr)) :: Sum.elim M N fin) { a with defers := [{ target := .collected D, args := #[] }] ++ a.defers } (w3.putObj l o) := fun o => by
    have : InSt (c.put D) n g' (ZE fin) { a with defers := [{ target := .collected D, args := #[] }] ++ a.defers } w3 := by
      refine ⟨β2, u', Fs2, by rw [h1]; rfl, h2, s2, ⟨s3, fun e X k h hk => b3.dead 700 _ k lk1_same ((s5 k).2 ⟨e, X, h, hk⟩), s4⟩, h5.trans b2 (fun k ⟨e, _, hk⟩ => hfz k hk), fun e X k h hk => ?_, fun e he => ?_⟩
      · rcases b4 700 _ k lk1_same ((s5 k).2 ⟨e, X, h, hk⟩) with ⟨_, _, hk⟩ | hk
        · exact hfz k hk
        · exact .inr (Nat.le_trans h5.size hk)
      · have h8 : e ∈ c.I := he
        exact (s1 e (List.mem_append_left _ (hI ▸ h8))).trans (h7 e he)
    refine (this.putOb 702 (by show lkE ((702, _) :: _) 702 = _; rw [lkE_cons, if_pos rfl]) o).congr fun e => ?_
    show _ = lkE ((702, some (Ent.ob l o)) :: (702, some (Ent.ob l (RecO r (st2 (pdo pd fin)) (pdo pd fin)))) :: (701, some (Ent.ob D dfr)) :: Sum.elim M N fin) e
    rw [lkE_cons, lkE_cons (E := (702, _) :: _)]
    by_cases q : 702 = e
    · rw [if_pos q, if_pos q]
    · rw [if_neg q, if_neg q, lkE_cons (e := 702), if_neg q]
  have hr3 : w3.heap[l]? = some (RecO r (st2 (pdo pd fin)) (pdo pd fin)) := (s3 702 (Ent.ob l (RecO r (st2 (pdo pd fin)) (pdo pd fin))) (by show lkE ((702, _) :: _) 702 = _; rw [lkE_cons, if_pos rfl])).2
  refine ⟨_, _, run_endLoop hr3 (by cases fin <;> simp [pdo, st2]), ?_⟩
  have hd := hdone l D (.loop { { r with state := st2 (pdo pd fin), pending := pdo pd fin } with state := .exhausted })
  have hl3 := hlast (.loop { { r with state := st2 (pdo pd fin), pending := pdo pd fin } with state := .exhausted })
  cases fin with
  | inl i => exact hd _ _ hl3
  | inr q =>
    have := hd _ _ hl3
    have hF' : Fc (c.put D).rd = Fence.wide := hF
    rw [hF'] at this
    exact this
end
section
variable {P : Program} {c : Ctx} {n : Nat} {g : List (Nat × T)} {E : List (Nat × Option Ent)} {fn : Func} {R : Ending → World → Prop}
/-- A function with such a loop. -/
theorem fn_ofM {f : FuncId} {x : Code} {As : List T} {Ei Eo : List (Nat × Ent)} {N : List Nat} {R : T} (hf : P.funcs[f]? = some fn) (hb : fn.body = some x) (ha : As.length ≤ fn.ntmps)
    (h : ∀ c : Ctx0, c.up.I = nsOf (argl 0 As) ++ nsEnts Ei → Tri P x (bodyPostM Fence.wide 0 P fn (Back c.up Eo N R)) c.up fn.ntmps (argl 0 As) (somes Ei)) : Fn P f As Ei Eo N R := fun vs β u w F hs hr hH => by
  have hl := hr.len
  refine (callsIn_wide.1 (callsIn_of_wp_marks hf hb trivial (h ⟨w, u, Fp F (Names Ei), β, _⟩ rfl _ w ⟨β, u, F, rfl, by simp; omega, fun t X hX => ?_, ?_, Tr.refl hs, fun e X k he hk => .inl ?_, fun _ _ => rfl⟩))).mono fun e w' he => ?_
  · obtain ⟨_, h2⟩ := lk_argl _ _ _ _ hX
    rw [Nat.sub_zero] at h2
    obtain ⟨v, h3, h4⟩ := hr.at h2
    have hlt := (List.getElem?_eq_some_iff.1 h3).1
    exact ⟨v, by simp [Array.getElem?_append, hlt, h3]; simpa [hlt] using h3, h4⟩
  · rw [show lkE (somes Ei) = lk Ei from funext (lkE_somes Ei)]; exact hH
  · rw [lkE_somes] at he
    exact ⟨e, List.mem_map.2 ⟨_, lk_mem he, rfl⟩, hk⟩
  · obtain ⟨v, rfl, u', β', F', h1, h2, h3, h4, h5⟩ := he
    exact ⟨v, rfl, u', β', F', h1, h2, h3, h4, h5⟩
theorem ret_M1 {e : Exit} {D : Nat} (he : e = .ret ∨ e = .normal) (hE : lkE E 701 = some (Ent.ob D dfr)) (hdf : c.df = []) (h : PN c n (bodyPost P fn R .ret) g ((701, some (Ent.ob D (.deferred none))) :: E)) : PN (c.put D) n (bodyPostM Fence.wide 0 P fn R e) g E := fun a w hS => by
  have hk : w.heap[D]? = some dfr := by
    obtain ⟨β, u, F, h1, h2, h3, h4, h5, h6, h7⟩ := hS
    exact (h4.hold 701 (Ent.ob D dfr) hE).2
  have ha : a.defers = [{ target := .collected D, args := #[] }] := by
    obtain ⟨β, u, F, h1, _⟩ := hS
    rw [h1]
    show _ :: c.df = _
    rw [hdf]
  have hS' : InSt c n g ((701, some (Ent.ob D (.deferred none))) :: E) { a with defers := [] } (w.putObj D (.deferred none)) := by
    obtain ⟨β, u, F, h1, h2, h3, h4, h5, h6, h7⟩ := hS.putOb 701 hE (.deferred none)
    exact ⟨β, u, F, hdf.symm, h2, h3, h4, h5, h6, h7⟩
  obtain ⟨hd, v, h1, h2⟩ := h _ _ hS'
  have : LeavesInM Fence.wide 0 P fn a.tmps R a.defers .returning w := by
    rw [ha]
    exact ⟨by simp, .inl ⟨D, _, rfl, run_takeDeferred hk, v, h1, h2⟩⟩
  rcases he with rfl | rfl <;> exact this
theorem pn_off (h : PN c n (bodyPost P fn R .ret) g E) : PN c n (bodyPost P fn R .normal) g E := h
variable {Eo : List (Nat × Ent)} {N I : List Nat} {X : T}
theorem ret0 (hI : c.I = I) (hr : fn.results = #[]) (hX : (T.tup []).le X) (hE : SubE (somes Eo) E) (hok : retOk I Eo N X = true := by kernel_rfl) (hdf : c.df = [] := by rfl) : PN c n (bodyPost P fn (Back c Eo N X) .ret) g E :=
  ret_any hI hok hE hX (hdf := hdf) fun β u w F tmps hs ht hH => by
    refine ⟨.tuple #[], ?_, [], rfl, trivial⟩
    unfold results
    rw [hr]
    simp
end
end Go.Proofs.YtekghdfbhbhigaaGreat.V
/- The numbers about a centre, one behind another; small things of values. -/
set_option linter.unusedVariables false
set_option maxRecDepth 100000
namespace Go.Proofs.YtekghdfbhbhigaaGreat.V
open Go.RowKit Mt Nml
theorem ediv_is {M q a : Int} (hM : 0 < M) (h1 : M * a ≤ q) (h2 : q < M * a + M) : q / M = a := by
  have e1 : q / M < a + 1 := Int.ediv_lt_of_lt_mul hM (by rw [Int.add_mul, Int.one_mul, Int.mul_comm]; exact h2)
  have e2 : a ≤ q / M := Int.le_ediv_of_mul_le hM (by rw [Int.mul_comm]; exact h1)
  omega
theorem nth_zero (c : Rat) : nth c 0 = nea c := by
  unfold nth
  split <;> simp
theorem bhd_nth (c : Rat) (k : Nat) : bhd c (nth c k) = nth c (k + 1) := by
  have hM := den_p' c
  have e := nea_eq c
  have h1 := Int.ediv_mul_le (2 * c.num + (c.den : Int)) (b := 2 * (c.den : Int)) (by omega)
  have h2 := Int.lt_ediv_add_one_mul_self (2 * c.num + (c.den : Int)) (b := 2 * (c.den : Int)) (by omega)
  unfold bhd
  simp only [mir_eq, c_lt_int]
  unfold nth
  simp only [int_le_c, eq_iff_iff]
  rw [← e] at h1 h2
  generalize nea c = y at *
  generalize c.num = N at *
  generalize (c.den : Int) = M at *
  have e1 : y * (2 * M) = 2 * (M * y) := by rw [Int.mul_comm y, Int.mul_assoc]
  have e2 : (y + 1) * (2 * M) = 2 * (M * y) + 2 * M := by rw [Int.add_mul, e1]; omega
  rw [e1] at h1
  rw [e2] at h2
  obtain ⟨j, hj⟩ : ∃ j, k = 2 * j ∨ k = 2 * j + 1 := ⟨k / 2, by omega⟩
  have hp : 0 ≤ M * (j : Int) := Int.mul_nonneg (by omega) (by omega)
  have a1 : ∀ z : Int, M * (y + z) = M * y + M * z := fun z => Int.mul_add _ _ _
  have a2 : ∀ z : Int, M * (y - z) = M * y - M * z := fun z => Int.mul_sub _ _ _
  have a3 : M * ((j + 1 : Nat) : Int) = M * (j : Int) + M := by rw [Int.natCast_add, Int.mul_add]; show _ + M * 1 = _; omega
  have a4 : M * ((j : Int) + 1) = M * (j : Int) + M := by rw [Int.mul_add]; omega
  rcases hj with rfl | rfl
  · rw [show (2 * j + 1) / 2 = j by omega, show (2 * j + 1 + 1) / 2 = j + 1 by omega]
    have p1 : ¬ (2 * j % 2 = 1) := by omega
    have p2 : (2 * j + 1) % 2 = 1 := by omega
    by_cases h : M * y ≤ N
    · have v1 : (if (2 * j % 2 = 1 ↔ M * y ≤ N) then y + (j : Int) else y - (j : Int)) = y - (j : Int) := if_neg (by simp [p1, h])
      have v2 : (if ((2 * j + 1) % 2 = 1 ↔ M * y ≤ N) then y + ((j + 1 : Nat) : Int) else y - ((j + 1 : Nat) : Int)) = y + ((j + 1 : Nat) : Int) := if_pos (by simp [p2, h])
      rw [v1, v2, a2, if_neg (by omega), ediv_is (a := y + (j : Int)) hM (by rw [a1]; omega) (by rw [a1]; omega)]
      omega
    · have v1 : (if (2 * j % 2 = 1 ↔ M * y ≤ N) then y + (j : Int) else y - (j : Int)) = y + (j : Int) := if_pos (by simp [p1, h])
      have v2 : (if ((2 * j + 1) % 2 = 1 ↔ M * y ≤ N) then y + ((j + 1 : Nat) : Int) else y - ((j + 1 : Nat) : Int)) = y - ((j + 1 : Nat) : Int) := if_neg (by simp [p2, h])
      rw [v1, v2, a1, if_pos (by omega), ediv_is (a := y - ((j : Int) + 1)) hM (by rw [a2, a4]; omega) (by rw [a2, a4]; omega)]
      omega
  · rw [show (2 * j + 1 + 1) / 2 = j + 1 by omega, show (2 * j + 1 + 1 + 1) / 2 = j + 1 by omega]
    have p1 : (2 * j + 1) % 2 = 1 := by omega
    have p2 : ¬ ((2 * j + 1 + 1) % 2 = 1) := by omega
    by_cases h : M * y ≤ N
    · have v1 : (if ((2 * j + 1) % 2 = 1 ↔ M * y ≤ N) then y + ((j + 1 : Nat) : Int) else y - ((j + 1 : Nat) : Int)) = y + ((j + 1 : Nat) : Int) := if_pos (by simp [p1, h])
      have v2 : (if ((2 * j + 1 + 1) % 2 = 1 ↔ M * y ≤ N) then y + ((j + 1 : Nat) : Int) else y - ((j + 1 : Nat) : Int)) = y - ((j + 1 : Nat) : Int) := if_neg (by simp [p2, h])
      rw [v1, v2, a1, a3, if_pos (by omega), ediv_is (a := y - ((j : Int) + 1)) hM (by rw [a2, a4]; omega) (by rw [a2, a4]; omega)]
      omega
    · have v1 : (if ((2 * j + 1) % 2 = 1 ↔ M * y ≤ N) then y + ((j + 1 : Nat) : Int) else y - ((j + 1 : Nat) : Int)) = y - ((j + 1 : Nat) : Int) := if_neg (by simp [p1, h])
      have v2 : (if ((2 * j + 1 + 1) % 2 = 1 ↔ M * y ≤ N) then y + ((j + 1 : Nat) : Int) else y - ((j + 1 : Nat) : Int)) = y + ((j + 1 : Nat) : Int) := if_pos (by simp [p2, h])
      rw [v1, v2, a2, a3, if_neg (by omega), ediv_is (a := y + (j : Int)) hM (by rw [a1]; omega) (by rw [a1]; omega)]
      omega
theorem fp_st1 {X : T} : (T.fp (T.st [X])).le (T.fp X) := fun β u v ⟨ad, x, e, _, ⟨cs, e1, y, rest, h0, h1, e2, h3⟩, h2⟩ => by
  have hr : rest = [] := h3
  subst hr
  rw [List.append_nil] at e2
  refine ⟨ad, y, e, h0, h1, ?_⟩
  rw [e1, e2] at h2
  simpa [Value.cells] using h2
/-- One's own in a round is another's concern. -/
theorem YOk.le {P : Program} {l : Nat} {X Y : T} {z z' : Ent0} {b : Bool} (h : YOk P l Y z b z') (hl : X.le Y) : YOk P l X z b z' := fun v u w F hs hv hz hd => h v u w F hs (hl _ _ _ hv) hz hd
end Go.Proofs.YtekghdfbhbhigaaGreat.V
