/- A logic of calls: rows in a box get other names; a slice with a bound. -/
import Derived.Test.YtlmiadjogdfjkaaVB
set_option linter.unusedVariables false
set_option linter.unusedSimpArgs false
namespace Go.Proofs.Ytlmiadjogdfjkaa.V
open Go.RowKit Mt Nml

/-- The same things, with another name for a row. -/
def RenC (e e' : Nat) : List T → List T → Prop
  | [], [] => True
  | X :: r, Y :: s => ((X = Y ∧ e ∉ X.ns) ∨ (X = T.o e' ∧ Y = T.o e)) ∧ RenC e e' r s
  | _, _ => False
theorem RenC.cells {e e' : Nat} {β : Env} {u : World} : ∀ {l l' : List T} {cs : List Value}, RenC e e' l l' → Cells β u l cs → Cells (setE β e (β e')) u l' cs
  | [], [], _, _, h => h
  | X :: r, Y :: s, cs, ⟨k1, k2⟩, ⟨v, rest, h0, h1, he, h2⟩ => by
    refine ⟨v, rest, ?_, ?_, he, RenC.cells k2 h2⟩
    · rcases k1 with ⟨rfl, _⟩ | ⟨_, rfl⟩
      · exact h0
      · show (1 : Nat) ≠ 0; omega
    · rcases k1 with ⟨rfl, hn⟩ | ⟨rfl, rfl⟩
      · exact X.ext (fun q hq => setE_ne _ _ (fun h => hn (h ▸ hq))) h1
      · exact ⟨by rw [setE_same]; exact h1.1, h1.2⟩
  | [], _ :: _, _, h, _ => h.elim
  | _ :: _, [], _, h, _ => h.elim
section
variable {P : Program} {x : Code} {Q : Exit → Act → World → Prop} {ctx : Ctx} {n : Nat} {g : List (Nat × T)} {E : List (Nat × Option Ent)}
/-- A row of one's own whose slice lies in a box gets another name. -/
theorem pn_renb {α : Type} {c : Cod α} {l : List α} {τ et : TypeId} {bl bl' : List T} {K : Act → World → Prop} (f e e' : Nat) (hE : lkE E e' = some (Ent.row c τ l)) (hB : lkE E f = some (Ent.box et bl)) (hr : RenC e e' bl bl') (hf : ((nsOf g ++ nsE E ++ ctx.I).contains e) = false) (hfe : Nat.beq f e' = false := by rfl) (h : PN ctx n K g ((f, some (Ent.box et bl')) :: (e, some (Ent.row c τ l)) :: (e', none) :: E)) : PN ctx n K g E := fun a w hS => h a w (by
  obtain ⟨β, u, F, h1, h2, h3, h4, h5, h6, h7⟩ := hS
  have hfr : e ∉ nsOf g ∧ e ∉ nsE E ∧ e ∉ ctx.I := by
    simp only [List.contains_eq_mem, decide_eq_false_iff_not, List.mem_append, not_or] at hf
    exact ⟨hf.1.1, hf.1.2, hf.2⟩
  have hne : e ≠ e' := fun h => hfr.2.1 (h ▸ (lkE_base hE).1)
  have hfn : f ≠ e := fun h => hfr.2.1 (h ▸ (lkE_base hB).1)
  have hfe' : f ≠ e' := fun h => by subst h; simp at hfe
  have hb : ∀ q, q ≠ e → setE β e (β e') q = β q := fun q hne => setE_ne _ _ hne
  have hlk : ∀ q, lkE ((f, some (Ent.box et bl')) :: (e, some (Ent.row c τ l)) :: (e', none) :: E) q = if f = q then some (Ent.box et bl') else if e = q then some (Ent.row c τ l) else if e' = q then none else lkE E q := fun q => by
    unfold lkE
    rw [lk_cons, lk_cons, lk_cons]
    by_cases h0 : f = q
    · rw [if_pos h0, if_pos h0]; rfl
    · rw [if_neg h0, if_neg h0]
      by_cases h : e = q
      · rw [if_pos h, if_pos h]; rfl
      · rw [if_neg h, if_neg h]
        by_cases h2 : e' = q
        · rw [if_pos h2, if_pos h2]; rfl
        · rw [if_neg h2, if_neg h2]
  have key : ∀ q X, lkE ((f, some (Ent.box et bl')) :: (e, some (Ent.row c τ l)) :: (e', none) :: E) q = some X → (q = f ∧ X = Ent.box et bl') ∨ (q = e ∧ X = Ent.row c τ l) ∨ (q ≠ e ∧ q ≠ e' ∧ q ≠ f ∧ lkE E q = some X) := fun q X hX => by
    rw [hlk] at hX
    split at hX
    · rename_i h; cases hX; exact .inl ⟨h.symm, rfl⟩
    · split at hX
      · rename_i h; cases hX; exact .inr (.inl ⟨h.symm, rfl⟩)
      · split at hX
        · cases hX
        · rename_i h0 h h2; exact .inr (.inr ⟨Ne.symm h, Ne.symm h2, Ne.symm h0, hX⟩)
  -- the source of a footprint: an old entry
  let src : Nat → Nat := fun q => if q = e then e' else q
  have hsrc : ∀ q X, lkE ((f, some (Ent.box et bl')) :: (e, some (Ent.row c τ l)) :: (e', none) :: E) q = some X → ∃ Y, lkE E (src q) = some Y := fun q X hX => by
    rcases key q X hX with ⟨rfl, rfl⟩ | ⟨rfl, rfl⟩ | ⟨n1, n2, n3, hX'⟩
    · exact ⟨_, by simp only [src, if_neg hfn]; exact hB⟩
    · exact ⟨_, by simp only [src, if_pos]; exact hE⟩
    · exact ⟨_, by simp only [src, if_neg n1]; exact hX'⟩
  have hinj : ∀ q p X Y, lkE ((f, some (Ent.box et bl')) :: (e, some (Ent.row c τ l)) :: (e', none) :: E) q = some X → lkE ((f, some (Ent.box et bl')) :: (e, some (Ent.row c τ l)) :: (e', none) :: E) p = some Y → q ≠ p → src q ≠ src p := fun q p X Y hX hY hn => by
    have nq : q ≠ e' := by
      rcases key q X hX with ⟨rfl, _⟩ | ⟨rfl, _⟩ | ⟨_, n2, _, _⟩
      · exact hfe'
      · exact hne
      · exact n2
    have np : p ≠ e' := by
      rcases key p Y hY with ⟨rfl, _⟩ | ⟨rfl, _⟩ | ⟨_, n2, _, _⟩
      · exact hfe'
      · exact hne
      · exact n2
    simp only [src]
    split <;> split
    · rename_i a1 a2; exact absurd (a1.trans a2.symm) hn
    · exact fun h => np h.symm
    · exact nq
    · exact hn
  refine ⟨setE β e (β e'), u, fun q k => F (src q) k, h1, h2, fun t' X hX => ?_, ⟨fun q X hX => ?_, fun q X k hX hk => ?_, fun q p X Y k hX hY hn hk hk' => ?_⟩, h5, fun q X k hX hk => ?_, fun q hq => (hb q (fun h => hfr.2.2 (h ▸ hq))).trans (h7 q hq)⟩
  · obtain ⟨v, q1, q2⟩ := h3 t' X hX
    exact ⟨v, q1, X.ext (fun q hq => hb q (fun h => hfr.1 (h ▸ lk_base hX q hq))) q2⟩
  · rcases key q X hX with ⟨rfl, rfl⟩ | ⟨rfl, rfl⟩ | ⟨n1, n2, n3, hX'⟩
    · rw [hb _ hfn, show (fun k => F (src q) k) = F q from funext fun k => by simp only [src, if_neg hfn]]
      obtain ⟨b, cs, k1, k2, k3, k4⟩ := h4.hold _ _ hB
      exact ⟨b, cs, k1, k2, k3, hr.cells k4⟩
    · rw [setE_same, show (fun k => F (src q) k) = F e' from funext fun k => by simp only [src, if_pos]]
      exact (Ent.row c τ l).ext (fun q hq => by cases hq) (h4.hold e' _ hE)
    · rw [hb q n1, show (fun k => F (src q) k) = F q from funext fun k => by simp only [src, if_neg n1]]
      exact X.ext (fun p hp => hb p (fun h => hfr.2.1 (h ▸ (lkE_base hX').2 p hp))) (h4.hold q X hX')
  · obtain ⟨Y, hY⟩ := hsrc q X hX
    exact h4.dead _ Y k hY hk
  · obtain ⟨X', hX'⟩ := hsrc q X hX
    obtain ⟨Y', hY'⟩ := hsrc p Y hY
    exact h4.apart _ _ X' Y' k hX' hY' (hinj q p X Y hX hY hn) hk hk'
  · obtain ⟨Y, hY⟩ := hsrc q X hX
    exact h6 _ Y k hY hk)
end
section
variable {P : Program} {ops : Array Oper} {fin : List OpS → List (Nat × T) → List (Nat × Option Ent) → Prop} {r : List Oper} {H : List OpS} {g : List (Nat × T)} {E : List (Nat × Option Ent)} {o : Oper}
variable {t : Option Nat} {ty : TypeId} {ps : String} {af : Array Edge} {gd : Option (Nat × Bool)} {x y : Operand} {X Y : T} {e off m n : Nat} {b : Bool} {et : TypeId}
variable {α : Type} {c : Cod α} {xs ys : List α}
/-- xs[:hi:hi] of a slice that stands. -/
theorem sh3 {hi : Nat} {zh zm : Operand} {b' d' : Int} {kk' kk2 : IntKind} {τ : TypeId} {bytes : Nat} [hl : IsI X c xs] (hX : envl g x = some X) (hT : SlT P et τ c.sz bytes) (hhi : envl g zh = some (T.c (.int kk' b'))) (hmx : envl g zm = some (T.c (.int kk2 d'))) (hh : b' = (hi : Int) ∧ d' = (hi : Int) ∧ hi ≤ xs.length) (hn : J P ops fin r (OpS.p (T.l c (xs.take hi)) :: H) (putg t (T.l c (xs.take hi)) g) E) (hg : GuardIs ops g ⟨t, .slice et x none (some zh) (some zm), ty, ps, af, gd⟩ true := by exact gd0) : J P ops fin (⟨t, .slice et x none (some zh) (some zm), ty, ps, af, gd⟩ :: r) H g E :=
  j_val hg (ok_pure fun ρ β u w F hs he hH => by
    obtain ⟨rfl, rfl, h2⟩ := hh
    have hx := (T.l c xs).ext (β' := B0) (fun _ h => by cases h) (hl.le _ _ _ (he x (by simp [Op.operands]) _ hX))
    have hz : ρ zh = _ := he zh (by simp [Op.operands]) _ hhi
    have hz2 : ρ zm = _ := he zm (by simp [Op.operands]) _ hmx
    obtain ⟨A, n, k, ev, e1, e2, e3, e4⟩ := id hx
    obtain ⟨ht, inf, z, hi', hz0, hz1, hz2', hzc⟩ := hT.info
    have a2 : (0 : Int) ≤ hi ∧ (hi : Int) ≤ k := by omega
    have a3 : hi ≤ k := by omega
    rw [ev] at hx
    have := cut_rep (lo := 0) (B := A) hx (Nat.zero_le _) h2 (fun _ => by cases A <;> simp [Addr.add])
    obtain ⟨A', n', k', eq, q1, q2, q3, q4⟩ := this
    simp only [Nat.sub_zero] at eq
    cases eq
    refine ⟨.slice A hi hi, ?_, (T.l c _).ext (β := B0) (fun _ h => by cases h) ⟨A, hi, hi, rfl, q1, Nat.le_refl _, by omega, q4⟩⟩
    simp [execOp, ev, hz, hz2, Instr.sliceAt, Instr.slice, run_underlying ht, Instr.sliceBounds, Instr.sliceBound, asIntOf, a2, a3, sizeOf, typeInfo, hi']
    cases A <;> simp [Addr.add]) hn
end
/-- A nil slice in a box is a row. -/
def NilC (e : Nat) : List T → List T → Prop
  | [], [] => True
  | X :: r, Y :: s => ((X = Y ∧ e ∉ X.ns) ∨ (X = T.c (.slice none 0 0) ∧ Y = T.o e)) ∧ NilC e r s
  | _, _ => False
theorem NilC.cells {e : Nat} {β : Env} {u : World} : ∀ {l l' : List T} {cs : List Value}, NilC e l l' → Cells β u l cs → Cells (setE β e (.slice none 0 0)) u l' cs
  | [], [], _, _, h => h
  | X :: r, Y :: s, cs, ⟨k1, k2⟩, ⟨v, rest, h0, h1, he, h2⟩ => by
    refine ⟨v, rest, ?_, ?_, he, NilC.cells k2 h2⟩
    · rcases k1 with ⟨rfl, _⟩ | ⟨_, rfl⟩
      · exact h0
      · show (1 : Nat) ≠ 0; omega
    · rcases k1 with ⟨rfl, hn⟩ | ⟨rfl, rfl⟩
      · exact X.ext (fun q hq => setE_ne _ _ (fun h => hn (h ▸ hq))) h1
      · exact ⟨by rw [setE_same]; exact h1, _, _, _, h1⟩
  | [], _ :: _, _, h, _ => h.elim
  | _ :: _, [], _, h, _ => h.elim
theorem tri_nilb {P : Program} {x : Code} {Q : Exit → Act → World → Prop} {ctx : Ctx} {n : Nat} {g : List (Nat × T)} {E : List (Nat × Option Ent)} {α : Type} (c : Cod α) {et : TypeId} (τ : TypeId) {bl bl' : List T} (f e : Nat) (hB : lkE E f = some (Ent.box et bl)) (hr : NilC e bl bl') (hf : ((nsOf g ++ nsE E ++ ctx.I).contains e) = false) (h : Tri P x Q ctx n g ((f, some (Ent.box et bl')) :: (e, some (Ent.row c τ [])) :: E)) : Tri P x Q ctx n g E := fun a w hS => h a w (by
  obtain ⟨β, u, F, h1, h2, h3, h4, h5, h6, h7⟩ := hS
  have hfr : e ∉ nsOf g ∧ e ∉ nsE E ∧ e ∉ ctx.I := by
    simp only [List.contains_eq_mem, decide_eq_false_iff_not, List.mem_append, not_or] at hf
    exact ⟨hf.1.1, hf.1.2, hf.2⟩
  have hfn : f ≠ e := fun h => hfr.2.1 (h ▸ (lkE_base hB).1)
  have hb : ∀ q, q ≠ e → setE β e (.slice none 0 0) q = β q := fun q hne => setE_ne _ _ hne
  have hlk : ∀ q, lkE ((f, some (Ent.box et bl')) :: (e, some (Ent.row c τ [])) :: E) q = if f = q then some (Ent.box et bl') else if e = q then some (Ent.row c τ []) else lkE E q := fun q => by
    unfold lkE
    rw [lk_cons, lk_cons]
    by_cases h0 : f = q
    · rw [if_pos h0, if_pos h0]; rfl
    · rw [if_neg h0, if_neg h0]
      by_cases h : e = q
      · rw [if_pos h, if_pos h]; rfl
      · rw [if_neg h, if_neg h]
  have key : ∀ q X, lkE ((f, some (Ent.box et bl')) :: (e, some (Ent.row c τ [])) :: E) q = some X → (q = f ∧ X = Ent.box et bl') ∨ (q = e ∧ X = Ent.row c τ []) ∨ (q ≠ e ∧ q ≠ f ∧ lkE E q = some X) := fun q X hX => by
    rw [hlk] at hX
    split at hX
    · rename_i h; cases hX; exact .inl ⟨h.symm, rfl⟩
    · split at hX
      · rename_i h; cases hX; exact .inr (.inl ⟨h.symm, rfl⟩)
      · rename_i h0 h; exact .inr (.inr ⟨Ne.symm h, Ne.symm h0, hX⟩)
  have old : ∀ q X, lkE ((f, some (Ent.box et bl')) :: (e, some (Ent.row c τ [])) :: E) q = some X → q ≠ e → ∃ Y, lkE E q = some Y := fun q X hX hn => by
    rcases key q X hX with ⟨rfl, rfl⟩ | ⟨h, _⟩ | ⟨_, _, hX'⟩
    · exact ⟨_, hB⟩
    · exact absurd h hn
    · exact ⟨_, hX'⟩
  refine ⟨setE β e (.slice none 0 0), u, fun q k => F q k ∧ q ≠ e, h1, h2, fun t' X hX => ?_, ⟨fun q X hX => ?_, fun q X k hX hk => ?_, fun q p X Y k hX hY hn hk hk' => ?_⟩, h5, fun q X k hX hk => ?_, fun q hq => (hb q (fun h => hfr.2.2 (h ▸ hq))).trans (h7 q hq)⟩
  · obtain ⟨v, q1, q2⟩ := h3 t' X hX
    exact ⟨v, q1, X.ext (fun q hq => hb q (fun h => hfr.1 (h ▸ lk_base hX q hq))) q2⟩
  · rcases key q X hX with ⟨rfl, rfl⟩ | ⟨rfl, rfl⟩ | ⟨n1, n3, hX'⟩
    · rw [hb _ hfn, show (fun k => F q k ∧ q ≠ e) = F q from funext fun k => by simp [hfn]]
      obtain ⟨b, cs, k1, k2, k3, k4⟩ := h4.hold _ _ hB
      exact ⟨b, cs, k1, k2, k3, hr.cells k4⟩
    · rw [setE_same]
      exact ⟨[], World.ownsRow_nil _ _ _ _, rfl, fun k => ⟨fun h => absurd rfl h.2, fun h => by cases h⟩⟩
    · rw [hb q n1, show (fun k => F q k ∧ q ≠ e) = F q from funext fun k => by simp [n1]]
      exact X.ext (fun p hp => hb p (fun h => hfr.2.1 (h ▸ (lkE_base hX').2 p hp))) (h4.hold q X hX')
  · obtain ⟨Y, hY⟩ := old q X hX hk.2
    exact h4.dead q Y k hY hk.1
  · obtain ⟨X', hX'⟩ := old q X hX hk.2
    obtain ⟨Y', hY'⟩ := old p Y hY hk'.2
    exact h4.apart q p X' Y' k hX' hY' hn hk.1 hk'.1
  · obtain ⟨Y, hY⟩ := old q X hX hk.2
    exact h6 q Y k hY hk.1)
end Go.Proofs.Ytlmiadjogdfjkaa.V
