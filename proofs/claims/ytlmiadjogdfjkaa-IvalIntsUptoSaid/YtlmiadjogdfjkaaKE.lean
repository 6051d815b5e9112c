/- Sums and products of fractions. -/
import Derived.Test.YtlmiadjogdfjkaaKD
set_option linter.unusedVariables false
set_option linter.unusedSimpArgs false
set_option maxRecDepth 100000
namespace Go.Proofs.Ytlmiadjogdfjkaa.V
open Go.RowKit Mt Nml
section
variable {P : Program} {x : Code} {Q : Exit → Act → World → Prop} {ctx : Ctx} {n : Nat} {g : List (Nat × T)} {E : List (Nat × Option Ent)}
/-- A box that is written to no more: its pointer tells a place that stands. -/
theorem tri_fzb {et : TypeId} {l : List T} (t e : Nat) (ht : lk g t = some (T.p e 0)) (hE : lkE E e = some (Ent.box et l)) (hl : szs l ≠ 0) (h : Tri P x Q ctx n ((t, T.fp (T.st l)) :: g) ((e, none) :: E)) : Tri P x Q ctx n g E := fun a w hS => h a w (by
  obtain ⟨β, u, F, h1, h2, h3, h4, h5, h6, h7⟩ := hS
  obtain ⟨b, cs, k1, k2, k3, k4⟩ := h4.hold e _ hE
  have hs := h5.sub
  have hd : ∀ k, F e k → Dead u k := fun k hk => (h4.dead e _ k hE hk).1
  have hup := solid_up hs hd
  have hlk : ∀ f X, lkE ((e, none) :: E) f = some X → f ≠ e ∧ lkE E f = some X := fun f X hX => by
    unfold lkE at hX
    rw [lk_cons] at hX
    split at hX
    · cases hX
    · rename_i hne; exact ⟨Ne.symm hne, hX⟩
  refine ⟨β, solid u w (F e), F, h1, h2, fun t' X hX => ?_, ⟨fun f X hX => ?_, fun f X k hX hk => ?_, fun f f' X Y k hX hY hne hk hk' => ?_⟩, ⟨h5.os, h5.tape, h5.output, h5.size, h5.block, h5.old.trans hup, solid_sub hs, fun k hk hc hdk => solid_dead hs (fun hk' => ?_) (h5.dead k hk hc hdk)⟩, fun f X k hX hk => ?_, h7⟩
  · rw [lk_cons] at hX
    split at hX
    · rename_i e1
      subst e1
      cases hX
      obtain ⟨v, q1, b', q2, q3⟩ := h3 t _ ht
      have hb : b' = b := by rw [k1] at q2; cases q2; rfl
      subst hb
      refine ⟨v, q1, ⟨b', 0, none⟩, .agg cs.toArray, q3, hl, ⟨cs, rfl, k4.mono hup⟩, fun j y hy => ?_⟩
      rw [add_none, Nat.zero_add, solid_in hs ((k2 b').2 rfl), cell_of_row w b' j _ et (0, 0) k3]
      simpa [Value.cells] using hy
    · obtain ⟨v, q1, q2⟩ := h3 t' X hX
      exact ⟨v, q1, X.mono hup q2⟩
  · obtain ⟨hne, hX'⟩ := hlk f X hX
    exact X.mono hup (h4.hold f X hX')
  · obtain ⟨hne, hX'⟩ := hlk f X hX
    exact ⟨solid_dead hs (fun hk' => h4.apart f e X _ k hX' hE hne hk hk') (h4.dead f X k hX' hk).1, (h4.dead f X k hX' hk).2⟩
  · exact h4.apart f f' X Y k (hlk f X hX).2 (hlk f' Y hY).2 hne hk hk'
  · rcases h6 e _ k hE hk' with h8 | h8
    · exact hc h8
    · omega
  · exact h6 f X k (hlk f X hX).2 hk)
end
instance (k : Nat) (q : Rat) : Sp ((cQ k).X q) [T.Z q.num k, T.Z (q.den : Int) k] := inferInstanceAs (Sp (T.Q q k) _)
/-- A function value whose captured things hang on no memory of one's own. -/
def T.clo (f : FuncId) (Cs : List T) (h : Cs.flatMap (·.ns) = []) : T := ⟨[], 1, false, (T.fn f Cs).rep, (T.fn f Cs).shp, (T.fn f Cs).mono, fun _ hr => (T.fn f Cs).ext (fun e he => by rw [show (T.fn f Cs).ns = [] from h] at he; cases he) hr⟩
theorem clo_le {f : FuncId} {Cs : List T} {h : Cs.flatMap (·.ns) = []} : (T.fn f Cs).le (T.clo f Cs h) := fun _ _ _ k => k
theorem clo_ge {f : FuncId} {Cs : List T} {h : Cs.flatMap (·.ns) = []} : (T.clo f Cs h).le (T.fn f Cs) := fun _ _ _ k => k
theorem q_eq {q q' : Rat} {k k' : Nat} (h : q = q') (hk : k ≤ k') : (T.Q q k).le (T.Q q' k') := by subst h; exact st_le (l := [T.Z q.num k, T.Z (q.den : Int) k]) (l' := [T.Z q.num k', T.Z (q.den : Int) k']) ⟨z_mono hk, z_mono hk, trivial⟩
theorem den_ne (q : Rat) : ((q.den : Int)) ≠ 0 := by have := q.den_pos; omega
theorem den_sg (q : Rat) : sg (q.den : Int) = 1 := sg_pos (by have := q.den_pos; omega)
theorem rat_adds (q r : Rat) : ((q.num * (r.den : Int) + r.num * (q.den : Int) : Int) : Rat) / (((q.den : Int) * (r.den : Int) : Int) : Rat) = q + r := by
  conv => rhs; rw [← Rat.num_divInt_den q, ← Rat.num_divInt_den r]
  rw [Rat.divInt_add_divInt _ _ (den_ne q) (den_ne r), Rat.divInt_eq_div]
theorem rat_muls (q r : Rat) : ((q.num * r.num : Int) : Rat) / (((q.den : Int) * (r.den : Int) : Int) : Rat) = q * r := by
  conv => rhs; rw [← Rat.num_divInt_den q, ← Rat.num_divInt_den r]
  rw [Rat.divInt_mul_divInt, Rat.divInt_eq_div]

end Go.Proofs.Ytlmiadjogdfjkaa.V
