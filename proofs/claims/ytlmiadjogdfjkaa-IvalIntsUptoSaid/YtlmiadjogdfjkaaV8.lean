/- A logic of calls: whole numbers and rationals as values. -/
import Derived.Test.YtlmiadjogdfjkaaV7
import Derived.Test.YtlmiadjogdfjkaaKm
set_option linter.unusedVariables false
set_option linter.unusedSimpArgs false
namespace Go.Proofs.Ytlmiadjogdfjkaa.V
open Go.RowKit Mt Nml

/-- One of these things. -/
def T.ex {ι : Type} (m : Nat) (b : Bool) (p : ι → Prop) (X : ι → T) (h0 : ∀ i, (X i).ns = [] ∧ (X i).sz = m ∧ (X i).ag = b) : T := ⟨[], m, b, fun β u v => ∃ i, p i ∧ (X i).rep β u v, fun ⟨i, _, h⟩ hn => by
    have := (X i).shp h (by rw [(h0 i).2.1]; exact hn)
    rw [(h0 i).2.1, (h0 i).2.2] at this
    exact this, fun hs ⟨i, hp, h⟩ => ⟨i, hp, (X i).mono hs h⟩, fun hn ⟨i, hp, h⟩ => ⟨i, hp, (X i).ext (fun e he => by rw [(h0 i).1] at he; cases he) h⟩⟩
section
variable {P : Program} {Q : Exit → Act → World → Prop} {n : Nat} {c : Ctx} {g : List (Nat × T)} {E : List (Nat × Option Ent)} {x : Code} {ι : Type} {m : Nat} {b : Bool} {p : ι → Prop} {X : ι → T} {h0 : ∀ i, (X i).ns = [] ∧ (X i).sz = m ∧ (X i).ag = b}
/-- It is laid open. -/
theorem tri_ex (t : Nat) (ht : lk g t = some (T.ex m b p X h0)) (h : ∀ i, p i → Tri P x Q c n ((t, X i) :: g) E) : Tri P x Q c n g E := fun a w hS => by
  obtain ⟨β, u, F, h1, h2, h3, h4, h5, h6, h7⟩ := hS
  obtain ⟨v, k1, i, k2, k3⟩ := h3 t _ ht
  refine h i k2 a w ⟨β, u, F, h1, h2, fun t' Y hY => ?_, h4, h5, h6, h7⟩
  rw [lk_cons] at hY
  split at hY
  · rename_i e; subst e; cases hY; exact ⟨v, k1, k3⟩
  · exact h3 t' Y hY
/-- A slot is told otherwise. -/
theorem tri_as (t : Nat) {Y Z : T} (ht : lk g t = some Y) (hl : Y.le Z) (h : Tri P x Q c n ((t, Z) :: g) E) : Tri P x Q c n g E := fun a w hS => by
  obtain ⟨β, u, F, h1, h2, h3, h4, h5, h6, h7⟩ := hS
  obtain ⟨v, k1, k2⟩ := h3 t _ ht
  refine h a w ⟨β, u, F, h1, h2, fun t' Y' hY => ?_, h4, h5, h6, h7⟩
  rw [lk_cons] at hY
  split at hY
  · rename_i e; subst e; cases hY; exact ⟨v, k1, hl _ _ _ k2⟩
  · exact h3 t' Y' hY
end
/-- A function whose argument is one of these things. -/
theorem fn_ex {P : Program} {f : FuncId} {ι : Type} {m : Nat} {b : Bool} {p : ι → Prop} {X : ι → T} {h0 : ∀ i, (X i).ns = [] ∧ (X i).sz = m ∧ (X i).ag = b} {As Bs : List T} {Ei Eo : List (Nat × Ent)} {N : List Nat} {R : T} (h : ∀ i, p i → Fn P f (As ++ X i :: Bs) Ei Eo N R) : Fn P f (As ++ T.ex m b p X h0 :: Bs) Ei Eo N R := fun vs β u w F hs hr hH => by
  have key : ∀ (As : List T) (vs : List Value), Reps β u (As ++ T.ex m b p X h0 :: Bs) vs → ∃ i, p i ∧ Reps β u (As ++ X i :: Bs) vs := by
    intro As
    induction As with
    | nil => intro vs h; cases vs with
      | nil => exact h.elim
      | cons v s => obtain ⟨⟨i, k1, k2⟩, k3⟩ := h; exact ⟨i, k1, k2, k3⟩
    | cons Y r ih => intro vs h; cases vs with
      | nil => exact h.elim
      | cons v s => obtain ⟨i, k1, k2⟩ := ih s h.2; exact ⟨i, k1, h.1, k2⟩
  obtain ⟨i, hi, hr'⟩ := key As vs hr
  exact h i hi vs β u w F hs hr' hH
theorem fn_le {P : Program} {f : FuncId} {As Bs : List T} {Ei Eo : List (Nat × Ent)} {N : List Nat} {R : T} (h : Fn P f Bs Ei Eo N R) (hl : LeL As Bs) : Fn P f As Ei Eo N R := fun vs β u w F hs hr hH => h vs β u w F hs (hr.le hl) hH
theorem fn_out {P : Program} {f : FuncId} {As : List T} {Ei Eo : List (Nat × Ent)} {N : List Nat} {R S : T} (h : Fn P f As Ei Eo N R) (hl : R.le S) : Fn P f As Ei Eo N S := fun vs β u w F hs hr hH => (h vs β u w F hs hr hH).mono fun e w' ⟨v, he, u', β', F', h1, h2, h3, h4, h5⟩ => ⟨v, he, u', β', F', h1, h2, h3, h4, hl _ _ _ h5⟩

/-! ### limbs and whole numbers -/
def cU : Cod Int := ⟨fun a => T.c (.int .u32 a), 1, 0, fun _ => rfl, fun _ => rfl, by decide⟩
def iv (s : Bool) (N : Int) : Int := if s then -N else N
/-- Limbs that say N, at most k; in one form. -/
def T.L (N : Nat) (k : Nat) : T := T.ex 1 false (fun xs : List Int => Lim xs ∧ val xs = N ∧ xs.length ≤ k) (fun xs => T.l cU xs) (fun _ => ⟨rfl, rfl, rfl⟩)
/-- A whole number of at most k limbs; in one form. -/
def T.Zi (z : Int) (k : Nat) : T := T.ex 2 true (fun i : Bool × List Int => Lim i.2 ∧ z = iv i.1 (val i.2) ∧ i.2.length ≤ k) (fun i => T.st [T.c (.bool i.1), T.l cU i.2]) (fun _ => ⟨rfl, rfl, rfl⟩)
def T.Z (z : Int) (k : Nat) : T := T.ex 2 true (fun _ : Unit => zl z ≤ k) (fun _ => T.st [T.c (.bool (decide (z < 0))), T.l cU (dig z.natAbs)]) (fun _ => ⟨rfl, rfl, rfl⟩)
abbrev T.Q (q : Rat) (k : Nat) : T := T.st [T.Z q.num k, T.Z (q.den : Int) k]
theorem iv_natAbs (z : Int) : iv (decide (z < 0)) (val (dig z.natAbs)) = z := by
  unfold iv
  rw [dig_val]
  by_cases h : z < 0 <;> simp [h] <;> omega
theorem ex_le {ι κ : Type} {m : Nat} {b : Bool} {p : ι → Prop} {X : ι → T} {q : κ → Prop} {Y : κ → T} {h0 h1} (f : ι → κ) (h : ∀ i, p i → q (f i) ∧ (X i).le (Y (f i))) : (T.ex m b p X h0).le (T.ex m b q Y h1) := fun β u v ⟨i, k1, k2⟩ => ⟨f i, (h i k1).1, (h i k1).2 _ _ _ k2⟩
theorem in_ex {κ : Type} {m : Nat} {b : Bool} {q : κ → Prop} {Y : κ → T} {h1} (i : κ) (h : q i) : (Y i).le (T.ex m b q Y h1) := fun β u v k => ⟨i, h, k⟩
theorem z_zi (z : Int) (k : Nat) : (T.Z z k).le (T.Zi z k) := ex_le (fun _ => (decide (z < 0), dig z.natAbs)) fun _ h => ⟨⟨dig_lim _, (iv_natAbs z).symm, h⟩, .refl _⟩
theorem zi_mono {z : Int} {k k' : Nat} (h : k ≤ k') : (T.Zi z k).le (T.Zi z k') := ex_le id fun i ⟨h1, h2, h3⟩ => ⟨⟨h1, h2, Nat.le_trans h3 h⟩, .refl _⟩
theorem z_mono {z : Int} {k k' : Nat} (h : k ≤ k') : (T.Z z k).le (T.Z z k') := ex_le id fun i h1 => ⟨Nat.le_trans h1 h, .refl _⟩
theorem T.le.trans {X Y Z : T} (h : X.le Y) (k : Y.le Z) : X.le Z := fun β u v hv => k _ _ _ (h _ _ _ hv)
theorem cells_le {β : Env} {u : World} : ∀ {l l' : List T} {cs : List Value}, Cells β u l cs → LeL l l' → (l.map (·.sz) = l'.map (·.sz)) → Cells β u l' cs
  | [], [], _, h, _, _ => h
  | X :: r, Y :: s, cs, ⟨v, rest, h0, h1, e, h2⟩, ⟨k1, k2⟩, hz => by
    simp only [List.map_cons, List.cons.injEq] at hz
    exact ⟨v, rest, by rw [← hz.1]; exact h0, k1 _ _ _ h1, e, cells_le h2 k2 hz.2⟩
  | [], _ :: _, _, _, k, _ => k.elim
  | _ :: _, [], _, _, k, _ => k.elim
theorem st_le {l l' : List T} (h : LeL l l') (hz : l.map (·.sz) = l'.map (·.sz) := by rfl) : (T.st l).le (T.st l') := fun β u v ⟨cs, e, hc⟩ => ⟨cs, e, cells_le hc h hz⟩
theorem c_st {zs : List Value} (h : zs.all Value.oneCell' = true := by rfl) : (T.c (.agg zs.toArray)).le (T.st (zs.map T.c)) := fun β u v hv => ⟨zs, hv, cells_c h⟩
/-- A whole number, however it is told. -/
class IsZ (X : T) (z : outParam Int) (k : outParam Nat) : Prop where
  le : X.le (T.Zi z k)
  sz : X.sz = 2
instance (z : Int) (k : Nat) : IsZ (T.Zi z k) z k := ⟨.refl _, rfl⟩
instance (z : Int) (k : Nat) : IsZ (T.Z z k) z k := ⟨z_zi z k, rfl⟩
theorem nil_st : (T.st [T.c (.bool false), T.c (.slice none 0 0)]).le (T.st [T.c (.bool false), T.l cU []]) := st_le (l := [T.c (.bool false), T.c (.slice none 0 0)]) (l' := [T.c (.bool false), T.l cU []]) ⟨.refl _, nil_l cU, trivial⟩
theorem zi_of {s : Bool} {xs : List Int} {z : Int} {k : Nat} (h1 : Lim xs) (h2 : z = iv s (val xs)) (h3 : xs.length ≤ k) : (T.st [T.c (.bool s), T.l cU xs]).le (T.Zi z k) := fun β u v h => ⟨(s, xs), ⟨h1, h2, h3⟩, h⟩
theorem z_of {s : Bool} {z : Int} {k : Nat} (h1 : s = decide (z < 0)) (h2 : zl z ≤ k) : (T.st [T.c (.bool s), T.l cU (dig z.natAbs)]).le (T.Z z k) := fun β u v h => ⟨(), h2, by subst h1; exact h⟩
instance : IsZ (T.st [T.c (.bool false), T.c (.slice none 0 0)]) 0 0 := ⟨nil_st.trans (zi_of Lim.nil rfl (Nat.le_refl _)), rfl⟩
theorem c_st2 (a b : Value) (h : [a, b].all Value.oneCell' = true) : (T.c (.agg #[a, b])).le (T.st [T.c a, T.c b]) := c_st h
instance : IsZ (T.c (.agg #[.bool false, .slice none 0 0])) 0 0 := ⟨(c_st2 _ _ rfl).trans (IsZ.le (X := T.st [T.c (.bool false), T.c (.slice none 0 0)])), rfl⟩
instance (z : Int) (k : Nat) : Sp (T.Z z k) [T.c (.bool (decide (z < 0))), T.l cU (dig z.natAbs)] := ⟨fun β u v ⟨_, _, h⟩ => h⟩
instance : Sp (T.c (.agg #[.bool false, .slice none 0 0])) [T.c (.bool false), T.c (.slice none 0 0)] := ⟨c_st2 _ _ rfl⟩
theorem c_st4 (a b c d : Value) (h : [a, b, c, d].all Value.oneCell' = true) : (T.c (.agg #[a, b, c, d])).le (T.st [T.c a, T.c b, T.c c, T.c d]) := c_st h
/-- Limbs, however they are told. -/
class IsL2 (X : T) (N : outParam Nat) (k : outParam Nat) : Prop where le : X.le (T.L N k)
instance (N k : Nat) : IsL2 (T.L N k) N k := ⟨.refl _⟩
theorem l_L {xs : List Int} {N k : Nat} (h1 : Lim xs) (h2 : val xs = N) (h3 : xs.length ≤ k) : (T.l cU xs).le (T.L N k) := in_ex xs ⟨h1, h2, h3⟩
instance (N : Nat) : IsL2 (T.l cU (dig N)) N (lim N) := ⟨l_L (dig_lim N) (dig_val N) (Nat.le_refl _)⟩
instance : IsL2 (T.c (.slice none 0 0)) 0 0 := ⟨(nil_l cU).trans (l_L Lim.nil rfl (Nat.le_refl _))⟩
/-! kinds of elements -/
def cZi (k : Nat) : Cod Int := ⟨fun z => T.Zi z k, 2, 0, fun _ => rfl, fun _ => rfl, by decide⟩
def cZ (k : Nat) : Cod Int := ⟨fun z => T.Z z k, 2, 0, fun _ => rfl, fun _ => rfl, by decide⟩
def cQi (k : Nat) : Cod (Int × Int) := ⟨fun q => T.st [T.Zi q.1 k, T.Zi q.2 k], 4, (0, 0), fun _ => rfl, fun _ => rfl, by decide⟩
def cQ (k : Nat) : Cod Rat := ⟨fun q => T.Q q k, 4, 0, fun _ => rfl, fun _ => rfl, by decide⟩
def cL {α : Type} (c : Cod α) : Cod (List α) := ⟨fun l => T.l c l, 1, [], fun _ => rfl, fun _ => rfl, by decide⟩
class CodLe {α : Type} (c d : Cod α) : Prop where le : ∀ a, (c.X a).le (d.X a)
theorem els_le {α : Type} {c d : Cod α} (h : ∀ a, (c.X a).le (d.X a)) {u : World} : ∀ {l : List α} {cs : List Value}, Els c l u cs → Els d l u cs
  | [], _, hc => hc
  | a :: l, cs, ⟨v, rest, h0, h1, e, h2⟩ => ⟨v, rest, by rw [d.sz0]; exact d.pos, h a _ _ _ h1, e, els_le h h2⟩
theorem tl_le {α : Type} {c d : Cod α} (h : ∀ a, (c.X a).le (d.X a)) (l : List α) : (T.l c l).le (T.l d l) := fun β u v ⟨A, n, k, e, h1, h2, h3, h4⟩ => ⟨A, n, k, e, h1, h2, h3, fun hp => by
  obtain ⟨ad, ea, xs, h5, h6⟩ := h4 hp
  exact ⟨ad, ea, xs, els_le h h5, h6⟩⟩
instance (k : Nat) : CodLe (cZ k) (cZi k) := ⟨fun z => z_zi z k⟩
instance {α : Type} (c d : Cod α) [h : CodLe c d] : CodLe (cL c) (cL d) := ⟨fun l => tl_le h.le l⟩
instance (priority := low) {α : Type} (c d : Cod α) (l : List α) [h : CodLe c d] : IsL (T.l c l) d l := ⟨tl_le h.le l⟩
/-- Data of rows. -/
abbrev T.G (D : List Int) (L : List (List Int)) (k : Nat) : T := T.st [T.l (cZi k) D, T.l (cL (cZi k)) L]
/-- A rational, however it is told. -/
theorem q_le (A B : T) {a b : Int} {k l : Nat} [ha : IsZ A a k] [hb : IsZ B b l] : (T.st [A, B]).le (T.st [T.Zi a k, T.Zi b l]) := st_le (l := [A, B]) (l' := [T.Zi a k, T.Zi b l]) ⟨ha.le, hb.le, trivial⟩ (by simp only [List.map_cons, List.map_nil, ha.sz, hb.sz]; rfl)
end Go.Proofs.Ytlmiadjogdfjkaa.V
