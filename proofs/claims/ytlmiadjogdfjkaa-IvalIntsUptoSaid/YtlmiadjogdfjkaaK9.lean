/- Contracts: what the law calls, sums of products. -/
import Derived.Test.YtlmiadjogdfjkaaK8
import Derived.Test.YtlmiadjogdfjkaaVC
import Derived.Test.YtlmiadjogdfjkaaGm
set_option linter.unusedVariables false
set_option linter.unusedSimpArgs false
set_option maxRecDepth 100000
namespace Go.Proofs.Ytlmiadjogdfjkaa.V
open Go.RowKit Mt Nml
section
variable {P : Program} {x : Code} {Q : Exit → Act → World → Prop} {ctx : Ctx} {n : Nat} {g : List (Nat × T)} {E : List (Nat × Option Ent)}
theorem tri_z (t : Nat) {z : Int} {k : Nat} (ht : lk g t = some (T.Z z k)) (h : zl z ≤ k → Tri P x Q ctx n g E) : Tri P x Q ctx n g E := fun a w hS => by
  have hS' := hS
  obtain ⟨β, u, F, h1, h2, h3, _⟩ := hS'
  obtain ⟨v, _, _, hz, _⟩ := h3 t _ ht
  exact h hz a w hS
end
theorem box_pack {et : TypeId} {l : List T} {X : T} (h : (T.st l).le X) (h0 : X.sz ≠ 0) (hn : X.ns = [] := by rfl) : (Ent.box et l).le (Ent.box et [X]) := fun β u w v F ⟨b, cs, h1, h2, h3, h4⟩ => ⟨b, cs, h1, h2, h3, .agg cs.toArray, [], h0, h _ _ _ ⟨cs, rfl, h4⟩, by simp [Value.cells], rfl⟩
theorem zz0 : (T.st [T.c (.bool false), T.c (.slice none 0 0)]).le (T.Z 0 0) := made0 (s := false) (N := 0) lim_zero
theorem zq0 : ZQ.le (T.st [T.Z 0 0, T.Z 0 0]) := fun β u v ⟨cs, e, h⟩ => by
  subst e
  obtain ⟨v1, r1, _, a1, rfl, v2, r2, _, a2, rfl, v3, r3, _, a3, rfl, v4, r4, _, a4, rfl, h5⟩ := h
  cases a1; cases a2; cases a3; cases a4; cases h5
  exact ⟨_, rfl, .agg #[.bool false, .slice none 0 0], _, by show (2 : Nat) ≠ 0; omega, zz0 _ _ _ ⟨[.bool false, .slice none 0 0], rfl, cells_c (zs := [.bool false, .slice none 0 0]) rfl⟩, rfl, .agg #[.bool false, .slice none 0 0], [], by show (2 : Nat) ≠ 0; omega, zz0 _ _ _ ⟨[.bool false, .slice none 0 0], rfl, cells_c (zs := [.bool false, .slice none 0 0]) rfl⟩, rfl, rfl⟩

theorem z_up {z : Int} {k k' : Nat} (h : k ≤ k') : (T.Z z k).le (T.Z z k') := z_mono h

theorem box_pack1 {et : TypeId} {X Y : T} (h : X.le Y) (h0 : X.sz = Y.sz := by rfl) : (Ent.box et [X]).le (Ent.box et [Y]) := fun β u w v F ⟨b, cs, h1, h2, h3, h4⟩ => ⟨b, cs, h1, h2, h3, cells_le h4 ⟨h, trivial⟩ (by simp [h0])⟩

end Go.Proofs.Ytlmiadjogdfjkaa.V
