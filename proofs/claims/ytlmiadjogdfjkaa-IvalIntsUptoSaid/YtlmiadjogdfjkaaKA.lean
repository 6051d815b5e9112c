/- The data of rows. -/
import Derived.Test.YtlmiadjogdfjkaaK9
set_option linter.unusedVariables false
set_option linter.unusedSimpArgs false
set_option maxRecDepth 100000
namespace Go.Proofs.Ytlmiadjogdfjkaa.V
open Go.RowKit Mt Nml
instance (k : Nat) (z : Int) : IsZ ((cZ k).X z) z k := inferInstanceAs (IsZ (T.Z z k) z k)
instance (k : Nat) (z : Int) : IsZ ((cZi k).X z) z k := inferInstanceAs (IsZ (T.Zi z k) z k)
theorem z_to {z z' : Int} {k k' : Nat} (e : z = z') (h : zl z' ≤ k') : (T.Z z k).le (T.Z z' k') := by subst e; exact z_as h
/-- A row in a box that is written to no more. -/
def RdC (e : Nat) (X' : T) : List T → List T → Prop
  | [], [] => True
  | X :: r, Y :: s => (X = Y ∨ (X = T.o e ∧ Y = X')) ∧ RdC e X' r s
  | _, _ => False
theorem RdC.cells {e : Nat} {X' : T} {β : Env} {u : World} (h0 : X'.sz ≠ 0) (h : ∀ v, v = β e → X'.rep β u v) : ∀ {l l' : List T} {cs : List Value}, RdC e X' l l' → Cells β u l cs → Cells β u l' cs
  | [], [], _, _, h => h
  | X :: r, Y :: s, cs, ⟨k1, k2⟩, ⟨v, rest, h1, h2, he, h3⟩ => by
    rcases k1 with rfl | ⟨rfl, rfl⟩
    · exact ⟨v, rest, h1, h2, he, RdC.cells h0 h k2 h3⟩
    · exact ⟨v, rest, h0, h v h2.1, he, RdC.cells h0 h k2 h3⟩
  | [], _ :: _, _, h, _ => h.elim
  | _ :: _, [], _, h, _ => h.elim
section
variable {P : Program} {x : Code} {Q : Exit → Act → World → Prop} {ctx : Ctx} {n : Nat} {g : List (Nat × T)} {E : List (Nat × Option Ent)}
theorem tri_bz {et : TypeId} {z : Int} {k : Nat} (e : Nat) (hE : lkE E e = some (Ent.box et [T.Z z k])) (h : zl z ≤ k → Tri P x Q ctx n g E) : Tri P x Q ctx n g E := fun a w hS => by
  have hS' := hS
  obtain ⟨β, u, F, h1, h2, h3, h4, _⟩ := hS'
  obtain ⟨b, cs, _, _, _, v, rest, _, ⟨_, hz, _⟩, _⟩ := h4.hold e _ hE
  exact h hz a w hS
theorem tri_rdb {α : Type} {c : Cod α} {l : List α} {et : TypeId} {bl bl' : List T} (f e : Nat) (hE : lkE E e = some (Ent.frz c l)) (hB : lkE E f = some (Ent.box et bl)) (hr : RdC e (T.l c l) bl bl') (h : Tri P x Q ctx n g ((f, some (Ent.box et bl')) :: E)) : Tri P x Q ctx n g E := fun a w hS => h a w (by
  obtain ⟨β, u, F, h1, h2, h3, h4, h5, h6, h7⟩ := hS
  have hlk : ∀ q, lkE ((f, some (Ent.box et bl')) :: E) q = if f = q then some (Ent.box et bl') else lkE E q := fun q => by
    unfold lkE
    rw [lk_cons]
    by_cases h0 : f = q
    · rw [if_pos h0, if_pos h0]; rfl
    · rw [if_neg h0, if_neg h0]
  have old : ∀ q X, lkE ((f, some (Ent.box et bl')) :: E) q = some X → ∃ Y, lkE E q = some Y := fun q X hX => by
    rw [hlk] at hX
    split at hX
    · rename_i h; subst h; exact ⟨_, hB⟩
    · exact ⟨_, hX⟩
  refine ⟨β, u, F, h1, h2, h3, ⟨fun q X hX => ?_, fun q X k hX hk => ?_, fun q p X Y k hX hY hn hk hk' => ?_⟩, h5, fun q X k hX hk => ?_, h7⟩
  · rw [hlk] at hX
    split at hX
    · rename_i hq
      subst hq
      cases hX
      obtain ⟨b, cs, k1, k2, k3, k4⟩ := h4.hold _ _ hB
      have hfz := (h4.hold e _ hE).2
      exact ⟨b, cs, k1, k2, k3, RdC.cells (by show (1 : Nat) ≠ 0; omega) (fun v hv => (T.l c l).ext (β := B0) (fun _ h => by cases h) (by rw [hv]; exact hfz)) hr k4⟩
    · exact h4.hold q X hX
  · obtain ⟨Y, hY⟩ := old q X hX; exact h4.dead q Y k hY hk
  · obtain ⟨X', hX'⟩ := old q X hX
    obtain ⟨Y', hY'⟩ := old p Y hY
    exact h4.apart q p X' Y' k hX' hY' hn hk hk'
  · obtain ⟨Y, hY⟩ := old q X hX; exact h6 q Y k hY hk)
end

end Go.Proofs.Ytlmiadjogdfjkaa.V
