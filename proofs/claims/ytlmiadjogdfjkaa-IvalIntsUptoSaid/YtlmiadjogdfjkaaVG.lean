/- Arrays of one cell an element, and the lesser and greater float, in the logic of calls. -/
import Derived.Test.YtlmiadjogdfjkaaVF
set_option linter.unusedVariables false
set_option linter.unusedSimpArgs false
set_option maxRecDepth 100000
namespace Go.Proofs.Ytlmiadjogdfjkaa.V
open Go.RowKit Mt Nml

/-- An array type of n elements of one cell. -/
structure ArT (P : Program) (et τ : TypeId) (n : Nat) (zs : List Value) : Prop where
  und : P.underlying et = some (.array n τ)
  el : Ty P τ false 1
  zero : (P.info? et).bind (·.zero) = some (.agg zs.toArray)
  flat : zs.all Value.oneCell' = true
theorem sz_of {P : Program} {ty : TypeId} {b : Bool} {m : Nat} (h : Ty P ty b m) : ∃ inf, P.info? ty = some inf ∧ inf.size = m := by
  have := h.2
  cases hi : P.info? ty with
  | none => rw [hi] at this; cases this
  | some inf => rw [hi] at this; exact ⟨inf, rfl, by simpa using this⟩
section
variable {P : Program} {ops : Array Oper} {fin : List OpS → List (Nat × T) → List (Nat × Option Ent) → Prop} {r : List Oper} {H : List OpS} {g : List (Nat × T)} {E : List (Nat × Option Ent)} {o : Oper}
variable {t : Option Nat} {ty : TypeId} {ps : String} {af : Array Edge} {gd : Option (Nat × Bool)} {x y : Operand} {X Y : T} {e off m n : Nat} {b : Bool} {et : TypeId} {a d : Option Nat} {l l' : List T}
theorem bua {τ : TypeId} {zs : List Value} {parts : Array (Nat × Operand)} (hA : ArT P et τ n zs) (hp : puts g (plE 1 n 0) (zs.map T.c) parts.toList = some l') (hn : J P ops fin r (OpS.p (T.st l') :: H) (putg t (T.st l') g) E) (hg : GuardIs ops g ⟨t, .build et parts, ty, ps, af, gd⟩ true := by exact gd0) : J P ops fin (⟨t, .build et parts, ty, ps, af, gd⟩ :: r) H g E :=
  j_val hg (ok_pure fun ρ β u w F hs he hH => by
    obtain ⟨cs, q1, q2⟩ := fill_puts (place := fun i => some (i * 1, 1)) (fun i q h => by have := plE_at h; rw [this]; simp) hp (fun p hp Y hY => he p.2 (by simp only [Op.operands]; exact by simpa using ⟨p.1, by simpa using hp⟩) Y hY) (cells_c (β := β) (u := u) hA.flat)
    obtain ⟨inf, k1, k2⟩ := sz_of hA.el
    have hz : (zeroValue et).run P w = .ok (.agg zs.toArray) w := by
      have := hA.zero
      cases hi : P.info? et with
      | none => rw [hi] at this; cases this
      | some i2 => rw [hi] at this; simp [zeroValue, typeInfo, hi, show i2.zero = some (.agg zs.toArray) from this]
    refine ⟨_, ?_, cs, rfl, q2⟩
    simp only [execOp, Instr.build, Sem.run_bind, hz, Result.andThen_ok, run_underlying hA.und, run_sizeOf hA.el]
    rw [show (parts.map fun p => (p.1, ρ p.2)).toList = parts.toList.map fun p => (p.1, ρ p.2) by simp]
    simp only [Value.cells]
    rw [q1]
    rfl) hn
/-- An element of an array. -/
theorem ixr {τ : TypeId} {zs : List Value} {kk : IntKind} {z : Int} (i : Nat) [hsp : Sp X l] (hX : envl g x = some X) (hY : envl g y = some (T.c (.int kk z))) (hA : ArT P et τ n zs) (hi : z = (i : Int) ∧ i < n) (hF : fieldT false l i 1 = some Y) (hn : J P ops fin r (OpS.p Y :: H) (putg t Y g) E) (hg : GuardIs ops g ⟨t, .index et x y, ty, ps, af, gd⟩ true := by exact gd0) : J P ops fin (⟨t, .index et x y, ty, ps, af, gd⟩ :: r) H g E :=
  j_val hg (ok_pure fun ρ β u w F hs he hH => by
    obtain ⟨cs, h1, h2⟩ := hsp.le _ _ _ (he x (by simp [Op.operands]) _ hX)
    have hy : ρ y = .int kk (i : Int) := by rw [← hi.1]; exact he y (by simp [Op.operands]) _ hY
    obtain ⟨c1, c2⟩ := h2.field hF
    obtain ⟨inf, k1, k2⟩ := sz_of hA.el
    have h0 : (0 : Int) ≤ (i : Int) := by omega
    have h3 : ((i : Int)) < (n : Int) := by omega
    refine ⟨_, ?_, c2⟩
    have hlt : i < cs.length := by omega
    have e1 : (cs.drop i).take 1 = [cs[i]] := by rw [List.drop_eq_getElem_cons hlt]; rfl
    rw [e1]
    have hp : (part τ cs.toArray i).run P w = .ok cs[i] w := by
      unfold part
      rw [Sem.run_bind, run_isAgg hA.el, Result.andThen_ok]
      simp [List.getElem?_eq_getElem hlt]
    simp [execOp, h1, hy, Instr.index, asIntOf, run_underlying hA.und, h0, h3, hi.2, sizeOf, typeInfo, k1, k2, hp, asVal]) hn
/-- A place in an array in a box. -/
theorem ixp {τ : TypeId} {zs : List Value} {kk : IntKind} {z : Int} (i : Nat) (hX : envl g x = some (T.p e off)) (hY : envl g y = some (T.c (.int kk z))) (hA : ArT P et τ n zs) (hi : z = (i : Int) ∧ i < n) (off' : Nat) (hn : J P ops fin r (OpS.p (T.p e off') :: H) (putg t (T.p e off') g) E) (ho : off + i = off' := by rfl) (hg : GuardIs ops g ⟨t, .indexAddr et x y, ty, ps, af, gd⟩ true := by exact gd0) : J P ops fin (⟨t, .indexAddr et x y, ty, ps, af, gd⟩ :: r) H g E :=
  j_val hg (ok_pure fun ρ β u w F hs he hH => by
    obtain ⟨p, h1, h2⟩ := he x (by simp [Op.operands]) _ hX
    have hy : ρ y = .int kk (i : Int) := by rw [← hi.1]; exact he y (by simp [Op.operands]) _ hY
    obtain ⟨inf, k1, k2⟩ := sz_of hA.el
    have h0 : (0 : Int) ≤ (i : Int) := by omega
    have h3 : ((i : Int)) < (n : Int) := by omega
    exact ⟨pt p off', by simp [execOp, h2, hy, Instr.indexAt, Instr.sureAddr, asIntOf, run_underlying hA.und, h0, h3, hi.2, sizeOf, typeInfo, k1, k2, add_none, ho], p, h1, rfl⟩) hn
/-- The lesser and the greater of two floats. -/
def oMin : Option Nat → Option Nat → Option Nat
  | some x, some y => some (match FloatKind.f64.format.order x y with | some .lt => x | some .gt => y | _ => if (FloatKind.f64.decode x).neg then x else y)
  | _, _ => none
def oMax : Option Nat → Option Nat → Option Nat
  | some x, some y => some (match FloatKind.f64.format.order x y with | some .lt => y | some .gt => x | _ => if (FloatKind.f64.decode x).neg then y else x)
  | _, _ => none
theorem fo_isN {b x : Nat} (h : fo b = some x) : b = x ∧ Fl.isN x = false := by
  unfold fo at h
  split at h
  · cases h
  · rename_i hn; cases h; exact ⟨rfl, by simpa using hn⟩
theorem ord_num {x y : Nat} (hx : Fl.isN x = false) (hy : Fl.isN y = false) : FloatKind.f64.format.order x y = some (compare (Fl.key x) (Fl.key y)) := by
  have h1 : ¬ Fl.INF < Fl.rung x := of_decide_eq_false hx
  have h2 : ¬ Fl.INF < Fl.rung y := of_decide_eq_false hy
  exact Fl.order_key (by omega) (by omega)
theorem run_min2 {P : Program} {w : World} {p q : Nat} (ho : FloatKind.f64.format.order p q = some (compare (Fl.key p) (Fl.key q))) : (Builtin.min2 (.float .f64 p) (.float .f64 q)).run P w = .ok (.float .f64 (match FloatKind.f64.format.order p q with | some .lt => p | some .gt => q | _ => if (FloatKind.f64.decode p).neg then p else q)) w := by
  unfold Builtin.min2
  simp only [ho]
  cases compare (Fl.key p) (Fl.key q) <;> simp
theorem fmn {tys : Array TypeId} {i j : Nat} [hx : IsF X a] [hy : IsF Y d] (hX : envl g x = some X) (hY : envl g y = some Y) (ha : a = some i) (hd : d = some j) (hn : J P ops fin r (OpS.p (T.F (oMin (some i) (some j))) :: H) (putg t (T.F (oMin (some i) (some j))) g) E) (hg : GuardIs ops g ⟨t, .call ⟨.builtin .min, #[x, y], tys⟩, ty, ps, af, gd⟩ true := by exact gd0) : J P ops fin (⟨t, .call ⟨.builtin .min, #[x, y], tys⟩, ty, ps, af, gd⟩ :: r) H g E :=
  j_val hg (ok_pure fun ρ β u w F hs he hH => by
    obtain ⟨p, ⟨h1, h2⟩, h3⟩ := hx.le _ _ _ (he x (by simp [Op.operands, Call.operands]) _ hX)
    obtain ⟨q, ⟨k1, k2⟩, k3⟩ := hy.le _ _ _ (he y (by simp [Op.operands, Call.operands]) _ hY)
    rw [ha] at h2
    rw [hd] at k2
    obtain ⟨rfl, n1⟩ := fo_isN h2
    obtain ⟨rfl, n2⟩ := fo_isN k2
    have h4 : ρ x = .float .f64 p := h3
    have k4 : ρ y = .float .f64 q := k3
    have ho := ord_num n1 n2
    refine ⟨.float .f64 (match FloatKind.f64.format.order p q with | some .lt => p | some .gt => q | _ => if (FloatKind.f64.decode p).neg then p else q), ?_, _, ⟨?_, ?_⟩, rfl⟩
    · simp only [execOp, resolve, invoke, builtin, h4, k4, Builtin.min_, List.map_toArray, List.map_cons, List.map_nil, List.foldlM_cons, List.foldlM_nil, Sem.run_bind, run_min2 ho, Result.andThen_ok, Sem.run_pure]
    · rw [ho]; cases compare (Fl.key p) (Fl.key q) <;> simp only <;> first | exact h1 | exact k1 | (split <;> first | exact h1 | exact k1)
    · show fo _ = some _
      refine fo_s ?_
      rw [ho]; cases compare (Fl.key p) (Fl.key q) <;> simp only <;> first | exact n1 | exact n2 | (split <;> first | exact n1 | exact n2)) hn
theorem run_max2 {P : Program} {w : World} {p q : Nat} (ho : FloatKind.f64.format.order p q = some (compare (Fl.key p) (Fl.key q))) : (Builtin.max2 (.float .f64 p) (.float .f64 q)).run P w = .ok (.float .f64 (match FloatKind.f64.format.order p q with | some .lt => q | some .gt => p | _ => if (FloatKind.f64.decode p).neg then q else p)) w := by
  unfold Builtin.max2
  simp only [ho]
  cases compare (Fl.key p) (Fl.key q) <;> simp
theorem fmx {tys : Array TypeId} {i j : Nat} [hx : IsF X a] [hy : IsF Y d] (hX : envl g x = some X) (hY : envl g y = some Y) (ha : a = some i) (hd : d = some j) (hn : J P ops fin r (OpS.p (T.F (oMax (some i) (some j))) :: H) (putg t (T.F (oMax (some i) (some j))) g) E) (hg : GuardIs ops g ⟨t, .call ⟨.builtin .max, #[x, y], tys⟩, ty, ps, af, gd⟩ true := by exact gd0) : J P ops fin (⟨t, .call ⟨.builtin .max, #[x, y], tys⟩, ty, ps, af, gd⟩ :: r) H g E :=
  j_val hg (ok_pure fun ρ β u w F hs he hH => by
    obtain ⟨p, ⟨h1, h2⟩, h3⟩ := hx.le _ _ _ (he x (by simp [Op.operands, Call.operands]) _ hX)
    obtain ⟨q, ⟨k1, k2⟩, k3⟩ := hy.le _ _ _ (he y (by simp [Op.operands, Call.operands]) _ hY)
    rw [ha] at h2
    rw [hd] at k2
    obtain ⟨rfl, n1⟩ := fo_isN h2
    obtain ⟨rfl, n2⟩ := fo_isN k2
    have h4 : ρ x = .float .f64 p := h3
    have k4 : ρ y = .float .f64 q := k3
    have ho := ord_num n1 n2
    refine ⟨.float .f64 (match FloatKind.f64.format.order p q with | some .lt => q | some .gt => p | _ => if (FloatKind.f64.decode p).neg then q else p), ?_, _, ⟨?_, ?_⟩, rfl⟩
    · simp only [execOp, resolve, invoke, builtin, h4, k4, Builtin.max_, List.map_toArray, List.map_cons, List.map_nil, List.foldlM_cons, List.foldlM_nil, Sem.run_bind, run_max2 ho, Result.andThen_ok, Sem.run_pure]
    · rw [ho]; cases compare (Fl.key p) (Fl.key q) <;> simp only <;> first | exact h1 | exact k1 | (split <;> first | exact h1 | exact k1)
    · show fo _ = some _
      refine fo_s ?_
      rw [ho]; cases compare (Fl.key p) (Fl.key q) <;> simp only <;> first | exact n1 | exact n2 | (split <;> first | exact n1 | exact n2)) hn
end
def cF : Cod (Option Nat) := ⟨fun o => T.F o, 1, none, fun _ => rfl, fun _ => rfl, by decide⟩
instance (o : Option Nat) : IsF (cF.X o) o := ⟨.refl _⟩
theorem ar4 : ArT Try.prog 58 22 4 [.float .f64 0, .float .f64 0, .float .f64 0, .float .f64 0] := ⟨by kernel_rfl, tyF, by kernel_rfl, rfl⟩
theorem tyA4 : Ty Try.prog 58 true 4 := ⟨by kernel_rfl, by kernel_rfl⟩
theorem zeA4 : Zero Try.prog 58 [T.c (.float .f64 0), T.c (.float .f64 0), T.c (.float .f64 0), T.c (.float .f64 0)] := zero_of (zs := [.float .f64 0, .float .f64 0, .float .f64 0, .float .f64 0]) (z := .agg #[.float .f64 0, .float .f64 0, .float .f64 0, .float .f64 0]) (by kernel_rfl)
end Go.Proofs.Ytlmiadjogdfjkaa.V
