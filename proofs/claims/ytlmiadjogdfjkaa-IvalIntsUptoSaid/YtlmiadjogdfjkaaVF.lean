/- Floats in the logic of calls: a float is a word that is no NaN, or some NaN. -/
import Derived.Test.YtlmiadjogdfjkaaVC
import Derived.Test.YtlmiadjogdfjkaaFl
import Derived.Laws.FloatArith
import Derived.Laws.Externs
set_option linter.unusedVariables false
set_option linter.unusedSimpArgs false
set_option maxRecDepth 100000
namespace Go.Proofs.Ytlmiadjogdfjkaa.V
open Go.RowKit Mt Nml

/-- A word, where it is no NaN. -/
def fo (b : Nat) : Option Nat := if Fl.isN b then none else some b
theorem fo_n {b : Nat} (h : Fl.isN b = true) : fo b = none := if_pos h
theorem fo_s {b : Nat} (h : Fl.isN b = false) : fo b = some b := by unfold fo; rw [h]; rfl
def T.F (o : Option Nat) : T := T.ex 1 false (fun b : Nat => b < 18446744073709551616 ∧ fo b = o) (fun b => T.c (.float .f64 b)) (fun _ => ⟨rfl, rfl, rfl⟩)
class BLt (b : Nat) : Prop where lt : b < 18446744073709551616
class IsF (X : T) (o : outParam (Option Nat)) : Prop where le : X.le (T.F o)
instance (o : Option Nat) : IsF (T.F o) o := ⟨.refl _⟩
instance (b : Nat) [h : BLt b] : IsF (T.c (.float .f64 b)) (fo b) := ⟨fun β u v k => ⟨b, ⟨h.lt, rfl⟩, k⟩⟩
instance : BLt 0 := ⟨by decide⟩
instance : BLt 9218868437227405311 := ⟨by decide⟩
instance : BLt 4602678819172646912 := ⟨by decide⟩
instance : BLt 4607182418800017408 := ⟨by decide⟩
def oLt : Option Nat → Option Nat → Bool
  | some x, some y => decide (Fl.key x < Fl.key y)
  | _, _ => false
def oLe : Option Nat → Option Nat → Bool
  | some x, some y => decide (Fl.key x ≤ Fl.key y)
  | _, _ => false
def oEq : Option Nat → Option Nat → Bool
  | some x, some y => decide (Fl.key x = Fl.key y)
  | _, _ => false
theorem fo_lt (x y : Nat) : (FloatKind.f64.format.order x y == some .lt) = oLt (fo x) (fo y) := by
  rw [Fl.ord_lt]; unfold fo
  cases hx : Fl.isN x <;> cases hy : Fl.isN y <;> simp [oLt]
theorem fo_gt (x y : Nat) : (FloatKind.f64.format.order x y == some .gt) = oLt (fo y) (fo x) := by
  rw [Fl.ord_gt]; unfold fo
  cases hx : Fl.isN x <;> cases hy : Fl.isN y <;> simp [oLt]
theorem fo_eq (x y : Nat) : (FloatKind.f64.format.order x y == some .eq) = oEq (fo x) (fo y) := by
  rw [Fl.ord_eq]; unfold fo
  cases hx : Fl.isN x <;> cases hy : Fl.isN y <;> simp [oEq]
theorem oLe_lt (x y : Option Nat) : (oLt x y || oEq x y) = oLe x y := by
  cases x <;> cases y <;> first | rfl | skip
  unfold oLt oEq oLe
  rw [← Bool.decide_or]
  exact decide_eq_decide.2 (by omega)
theorem oEq_comm (x y : Option Nat) : oEq x y = oEq y x := by
  cases x <;> cases y <;> first | rfl | skip
  exact decide_eq_decide.2 ⟨Eq.symm, Eq.symm⟩
theorem oEq_self (x : Option Nat) : oEq x x = x.isSome := by cases x <;> simp [oEq]
def ong : Option Nat → Option Nat := Option.map Fl.ng
theorem xor63 {d : Nat} (h : d < 2 ^ 63) : d ^^^ 2 ^ 63 = d + 2 ^ 63 := by
  apply Nat.eq_of_testBit_eq
  intro i
  rw [Nat.testBit_xor, Nat.testBit_two_pow, Nat.add_comm]
  rcases Nat.lt_trichotomy i 63 with h1 | h1 | h1
  · rw [Nat.testBit_two_pow_add_gt h1, decide_eq_false (by omega : ¬ 63 = i), Bool.xor_false]
  · subst h1
    rw [Nat.testBit_two_pow_add_eq, Nat.testBit_lt_two_pow h]; rfl
  · have h2 : 2 ^ 64 ≤ 2 ^ i := Nat.pow_le_pow_right (by omega) h1
    rw [Nat.testBit_lt_two_pow (x := d) (by omega), Nat.testBit_lt_two_pow (x := 2 ^ 63 + d) (by omega), decide_eq_false (by omega : ¬ 63 = i)]; rfl
theorem ng_eq {b : Nat} (hb : b < 18446744073709551616) : Fl.ng b = if 9223372036854775808 ≤ b then b - 9223372036854775808 else b + 9223372036854775808 := by
  show b ^^^ 2 ^ 63 = _
  split
  · rename_i h
    obtain ⟨d, rfl⟩ : ∃ d, b = d + 2 ^ 63 := ⟨b - 2 ^ 63, by omega⟩
    rw [← xor63 (by omega), Nat.xor_assoc, Nat.xor_self, Nat.xor_zero, xor63 (by omega)]
    omega
  · exact xor63 (by omega)
theorem ng_nan {b : Nat} (hb : b < 18446744073709551616) : Fl.isN (Fl.ng b) = Fl.isN b := by
  rw [Fl.isN_of (Fl.ng_lt hb), Fl.isN_of hb, ng_eq hb]
  refine decide_eq_decide.2 ?_
  split <;> omega
theorem fo_ng {b : Nat} (hb : b < 18446744073709551616) : fo (Fl.ng b) = ong (fo b) := by
  unfold fo
  rw [ng_nan hb]
  cases Fl.isN b <;> rfl
def oUp : Option Nat → Option Nat := Option.map Fl.up
def oDn (o : Option Nat) : Option Nat := ong (oUp (ong o))
def oLow (o : Option Nat) : Option Nat := if o = none then some 18442240474082181120 else oDn o
def oHigh (o : Option Nat) : Option Nat := if o = none then some 9218868437227405312 else oUp o
def oAr (f : Nat → Nat → Option Nat) : Option Nat → Option Nat → Option Nat
  | some x, some y => f x y
  | _, _ => none
open Ieee in
theorem word_nn (s : Bool) {r : Nat} (h : r ≤ 9218868437227405312) : Fl.isN (double.word s r) = false := by
  unfold Fl.isN Fl.rung Fl.INF Format.word
  rw [Fl.d_sw]
  refine decide_eq_false ?_
  split <;> omega
open Ieee in
theorem near_nn (s : Bool) (m : Nat) (e : Int) : Fl.isN (double.nearest s m e) = false := by
  unfold Format.nearest
  split
  · exact word_nn s (Nat.zero_le _)
  · exact word_nn s (by rw [Fl.d_inf]; exact Nat.min_le_right _ _)
open Ieee in
theorem map_nn {d : Option Datum} (hd : ∀ x, d = some x → x.isNaN = false) {r : Nat} (h : d.map double.write = some r) : Fl.isN r = false ∧ r < 18446744073709551616 := by
  refine ⟨?_, double.map_write_lt h⟩
  cases d with
  | none => cases h
  | some x =>
    cases h
    have := hd x rfl
    cases x with
    | number s m e => exact near_nn s m e
    | infinity s => exact word_nn s (by rw [Fl.d_inf]; omega)
    | nan s t => cases this
open Ieee in
theorem sum_nn {a b x : Datum} (h : a.sum b = some x) : x.isNaN = false := by
  cases a <;> cases b <;> simp only [Datum.sum] at h <;> first | (cases h; done) | (cases h; rfl) | (split at h <;> first | (cases h; done) | (cases h; rfl))
open Ieee in
theorem prod_nn {a b x : Datum} (h : a.product b = some x) : x.isNaN = false := by
  cases a <;> cases b <;> simp only [Datum.product] at h <;> first | (cases h; done) | (cases h; rfl) | (split at h <;> first | (cases h; done) | (cases h; rfl))
/-- An operation on floats that never tells of a NaN as of a number. -/
structure ArOk (f : Nat → Nat → Option Nat) : Prop where
  nn : ∀ x y r, f x y = some r → Fl.isN r = false ∧ r < 18446744073709551616
  n1 : ∀ x y, Fl.isN x = true → f x y = none
  n2 : ∀ x y, Fl.isN y = true → f x y = none
theorem nan_read {b : Nat} (h : Fl.isN b = true) : ∃ s t, Ieee.double.read b = .nan s t := Fl.read_nan (of_decide_eq_true h)
theorem add_ok : ArOk FloatKind.f64.format.add := ⟨fun x y r h => map_nn (fun _ hd => sum_nn hd) h,
  fun x y h => by obtain ⟨s, t, e⟩ := nan_read h; show ((Ieee.double.read x).sum _).map _ = none; rw [e]; rfl,
  fun x y h => by obtain ⟨s, t, e⟩ := nan_read h; show ((Ieee.double.read x).sum (Ieee.double.read y)).map _ = none; rw [e]; cases Ieee.double.read x <;> rfl⟩
theorem sub_ok : ArOk FloatKind.f64.format.sub := ⟨fun x y r h => map_nn (fun _ hd => sum_nn hd) h,
  fun x y h => by obtain ⟨s, t, e⟩ := nan_read h; show ((Ieee.double.read x).sum _).map _ = none; rw [e]; rfl,
  fun x y h => by obtain ⟨s, t, e⟩ := nan_read h; show ((Ieee.double.read x).sum (Ieee.double.read y).opposite).map _ = none; rw [e]; cases Ieee.double.read x <;> rfl⟩
theorem mul_ok : ArOk FloatKind.f64.format.mul := ⟨fun x y r h => map_nn (fun _ hd => prod_nn hd) h,
  fun x y h => by obtain ⟨s, t, e⟩ := nan_read h; show ((Ieee.double.read x).product _).map _ = none; rw [e]; rfl,
  fun x y h => by obtain ⟨s, t, e⟩ := nan_read h; show ((Ieee.double.read x).product (Ieee.double.read y)).map _ = none; rw [e]; cases Ieee.double.read x <;> rfl⟩
abbrev oAdd := oAr FloatKind.f64.format.add
abbrev oSub := oAr FloatKind.f64.format.sub
abbrev oMul := oAr FloatKind.f64.format.mul
theorem ar_o {f : Nat → Nat → Option Nat} (h : ArOk f) (x y : Nat) : f x y = oAr f (fo x) (fo y) := by
  unfold fo
  cases hx : Fl.isN x
  · cases hy : Fl.isN y
    · rfl
    · exact h.n2 x y hy
  · rw [h.n1 x y hx]; rfl
theorem nan_cut (x y t : Nat) : Fl.isN (Question.cut (.nanBits .f64 x y) t) = true ∧ Question.cut (.nanBits .f64 x y) t < 18446744073709551616 := by
  have e : Question.cut (.nanBits .f64 x y) t = (t % 2) * 9223372036854775808 + 9218868437227405312 + 1 + (t / 2) % 4503599627370495 := rfl
  rw [e]
  have h1 := Nat.mod_lt (t / 2) (show 0 < 4503599627370495 by decide)
  have h2 := Nat.mod_lt t (show 0 < 2 by decide)
  generalize t / 2 % 4503599627370495 = p at h1 ⊢
  generalize t % 2 = q at h2 ⊢
  refine ⟨decide_eq_true ?_, by omega⟩
  unfold Fl.rung Fl.INF
  omega
theorem tyF : Ty Try.prog 22 false 1 := ⟨by kernel_rfl, by kernel_rfl⟩
theorem tyV : Ty Try.prog 24 true 2 := ⟨by kernel_rfl, by kernel_rfl⟩
theorem fLo : FieldT Try.prog 24 0 0 false 1 := FieldT.mk' tyF
theorem fHi : FieldT Try.prog 24 1 1 false 1 := FieldT.mk' tyF
theorem stV : StructT Try.prog 24 [T.c (.float .f64 0), T.c (.float .f64 0)] [(0, 1), (1, 1)] := StructT.mk' (zs := [.float .f64 0, .float .f64 0])
theorem zeV : Zero Try.prog 24 [T.c (.float .f64 0), T.c (.float .f64 0)] := zero_of (zs := [.float .f64 0, .float .f64 0]) (z := .agg #[.float .f64 0, .float .f64 0]) (by kernel_rfl)
section
variable {P : Program} {ops : Array Oper} {fin : List OpS → List (Nat × T) → List (Nat × Option Ent) → Prop} {r : List Oper} {H : List OpS} {g : List (Nat × T)} {E : List (Nat × Option Ent)} {o : Oper}
variable {t : Option Nat} {ty : TypeId} {ps : String} {af : Array Edge} {gd : Option (Nat × Bool)} {x y : Operand} {X Y : T} {e off m n : Nat} {b : Bool} {et : TypeId} {a d : Option Nat}
theorem fop {op : BinOp} {t1 t2 : TypeId} {q : Bool} (c : Option Nat → Option Nat → Bool) [hx : IsF X a] [hy : IsF Y d] (hX : envl g x = some X) (hY : envl g y = some Y) (hq : c a d = q) (hr : ∀ (ρ : Operand → Value) w i j, ρ x = .float .f64 i → ρ y = .float .f64 j → (execOp ρ ⟨t, .binOp op t1 x y t2, ty, ps, af, gd⟩).run P w = .ok (.value (.bool (c (fo i) (fo j)))) w) (hn : J P ops fin r (OpS.p (T.c (.bool q)) :: H) (putg t (T.c (.bool q)) g) E) (hg : GuardIs ops g ⟨t, .binOp op t1 x y t2, ty, ps, af, gd⟩ true) : J P ops fin (⟨t, .binOp op t1 x y t2, ty, ps, af, gd⟩ :: r) H g E :=
  j_val hg (ok_pure fun ρ β u w F hs he hH => by
    obtain ⟨i, ⟨_, h2⟩, h3⟩ := hx.le _ _ _ (he x (by simp [Op.operands]) _ hX)
    obtain ⟨j, ⟨_, k2⟩, k3⟩ := hy.le _ _ _ (he y (by simp [Op.operands]) _ hY)
    refine ⟨_, hr ρ w i j h3 k3, ?_⟩
    show Value.bool _ = Value.bool q
    rw [h2, k2, hq]) hn
theorem flt {t1 t2 : TypeId} {q : Bool} [hx : IsF X a] [hy : IsF Y d] (hX : envl g x = some X) (hY : envl g y = some Y) (hq : oLt a d = q) (hn : J P ops fin r (OpS.p (T.c (.bool q)) :: H) (putg t (T.c (.bool q)) g) E) (hg : GuardIs ops g ⟨t, .binOp .lss t1 x y t2, ty, ps, af, gd⟩ true := by exact gd0) : J P ops fin (⟨t, .binOp .lss t1 x y t2, ty, ps, af, gd⟩ :: r) H g E :=
  fop oLt hX hY hq (fun ρ w i j h1 h2 => by simp [execOp, h1, h2, eqGuard, binOp, Op.floatCmp, fo_lt]) hn hg
theorem fgt {t1 t2 : TypeId} {q : Bool} [hx : IsF X a] [hy : IsF Y d] (hX : envl g x = some X) (hY : envl g y = some Y) (hq : oLt d a = q) (hn : J P ops fin r (OpS.p (T.c (.bool q)) :: H) (putg t (T.c (.bool q)) g) E) (hg : GuardIs ops g ⟨t, .binOp .gtr t1 x y t2, ty, ps, af, gd⟩ true := by exact gd0) : J P ops fin (⟨t, .binOp .gtr t1 x y t2, ty, ps, af, gd⟩ :: r) H g E :=
  fop (fun a d => oLt d a) hX hY hq (fun ρ w i j h1 h2 => by simp [execOp, h1, h2, eqGuard, binOp, Op.floatCmp, fo_gt]) hn hg
theorem fle {t1 t2 : TypeId} {q : Bool} [hx : IsF X a] [hy : IsF Y d] (hX : envl g x = some X) (hY : envl g y = some Y) (hq : oLe a d = q) (hn : J P ops fin r (OpS.p (T.c (.bool q)) :: H) (putg t (T.c (.bool q)) g) E) (hg : GuardIs ops g ⟨t, .binOp .leq t1 x y t2, ty, ps, af, gd⟩ true := by exact gd0) : J P ops fin (⟨t, .binOp .leq t1 x y t2, ty, ps, af, gd⟩ :: r) H g E :=
  fop oLe hX hY hq (fun ρ w i j h1 h2 => by simp [execOp, h1, h2, eqGuard, binOp, Op.floatCmp, fo_lt, fo_eq, oLe_lt]) hn hg
theorem fge {t1 t2 : TypeId} {q : Bool} [hx : IsF X a] [hy : IsF Y d] (hX : envl g x = some X) (hY : envl g y = some Y) (hq : oLe d a = q) (hn : J P ops fin r (OpS.p (T.c (.bool q)) :: H) (putg t (T.c (.bool q)) g) E) (hg : GuardIs ops g ⟨t, .binOp .geq t1 x y t2, ty, ps, af, gd⟩ true := by exact gd0) : J P ops fin (⟨t, .binOp .geq t1 x y t2, ty, ps, af, gd⟩ :: r) H g E :=
  fop (fun a d => oLe d a) hX hY hq (fun ρ w i j h1 h2 => by simp [execOp, h1, h2, eqGuard, binOp, Op.floatCmp, fo_gt, fo_eq, ← oLe_lt, oEq_comm (fo i)]) hn hg
theorem feq {t1 t2 : TypeId} {q : Bool} [hx : IsF X a] [hy : IsF Y d] (hX : envl g x = some X) (hY : envl g y = some Y) (hq : oEq a d = q) (hn : J P ops fin r (OpS.p (T.c (.bool q)) :: H) (putg t (T.c (.bool q)) g) E) (hg : GuardIs ops g ⟨t, .binOp .eql t1 x y t2, ty, ps, af, gd⟩ true := by exact gd0) : J P ops fin (⟨t, .binOp .eql t1 x y t2, ty, ps, af, gd⟩ :: r) H g E :=
  fop oEq hX hY hq (fun ρ w i j h1 h2 => by simp [execOp, h1, h2, eqGuard, binOp, Op.floatCmp, fo_eq]) hn hg
theorem fne {t1 t2 : TypeId} {q : Bool} [hx : IsF X a] [hy : IsF Y d] (hX : envl g x = some X) (hY : envl g y = some Y) (hq : (!oEq a d) = q) (hn : J P ops fin r (OpS.p (T.c (.bool q)) :: H) (putg t (T.c (.bool q)) g) E) (hg : GuardIs ops g ⟨t, .binOp .neq t1 x y t2, ty, ps, af, gd⟩ true := by exact gd0) : J P ops fin (⟨t, .binOp .neq t1 x y t2, ty, ps, af, gd⟩ :: r) H g E :=
  fop (fun a d => !oEq a d) hX hY hq (fun ρ w i j h1 h2 => by simp [execOp, h1, h2, eqGuard, binOp, Op.floatCmp, bne, fo_eq]) hn hg
theorem fng {t1 : TypeId} [hx : IsF X a] (hX : envl g x = some X) (hn : J P ops fin r (OpS.p (T.F (ong a)) :: H) (putg t (T.F (ong a)) g) E) (hg : GuardIs ops g ⟨t, .unOp .neg t1 x, ty, ps, af, gd⟩ true := by exact gd0) : J P ops fin (⟨t, .unOp .neg t1 x, ty, ps, af, gd⟩ :: r) H g E :=
  j_val hg (ok_pure fun ρ β u w F hs he hH => by
    obtain ⟨i, ⟨h1, h2⟩, h3⟩ := hx.le _ _ _ (he x (by simp [Op.operands]) _ hX)
    have h4 : ρ x = .float .f64 i := h3
    exact ⟨.float .f64 (Fl.ng i), by simp [execOp, h4, Op.unary, Fl.ng], Fl.ng i, ⟨Fl.ng_lt h1, by rw [fo_ng h1, h2]⟩, rfl⟩) hn
theorem after_drawn {β : Env} {u w : World} {F : FP} {X : T} {v : Value} {n : Nat} (hs : Sub u w) (h : X.rep β u v) : After β u w F [] (lk []) [] X v { w with drawn := n } :=
  ⟨u, β, F, fun _ _ => rfl, ⟨rfl, rfl, rfl, Nat.le_refl _, fun _ _ _ => rfl, Sub.refl _, hs, fun _ _ _ h => h⟩, Hold.none _ _ _ _, fun e X k h => (by cases h), h⟩
theorem far {op : BinOp} {t1 t2 : TypeId} {f : Nat → Nat → Option Nat} (hf : ArOk f) [hx : IsF X a] [hy : IsF Y d] (hX : envl g x = some X) (hY : envl g y = some Y)
    (hr : ∀ (ρ : Operand → Value) i j, ρ x = .float .f64 i → ρ y = .float .f64 j → execOp ρ ⟨t, .binOp op t1 x y t2, ty, ps, af, gd⟩ = (match f i j with | some r => pure (Value.float .f64 r) | none => do pure (Value.float .f64 (← choose (.nanBits .f64 i j)))) >>= fun v => pure (Next.value v))
    (hn : J P ops fin r (OpS.p (T.F (oAr f a d)) :: H) (putg t (T.F (oAr f a d)) g) E) (hg : GuardIs ops g ⟨t, .binOp op t1 x y t2, ty, ps, af, gd⟩ true) : J P ops fin (⟨t, .binOp op t1 x y t2, ty, ps, af, gd⟩ :: r) H g E :=
  j_val hg (fun ρ β u w F hs he hH => by
    obtain ⟨i, ⟨h1, h2⟩, h3⟩ := hx.le _ _ _ (he x (by simp [Op.operands]) _ hX)
    obtain ⟨j, ⟨k1, k2⟩, k3⟩ := hy.le _ _ _ (he y (by simp [Op.operands]) _ hY)
    unfold Res
    rw [hr ρ i j h3 k3]
    have e := ar_o hf i j
    rw [h2, k2] at e
    cases hv : f i j with
    | some z =>
      have := hf.nn _ _ _ hv
      simp only [Sem.run_bind, Sem.run_pure, Result.andThen_ok]
      exact after_pure hs ⟨z, ⟨this.2, by rw [fo_s this.1, ← e, hv]⟩, rfl⟩
    | none =>
      have := nan_cut i j (w.tape w.drawn (.nanBits .f64 i j))
      simp only [Sem.run_bind, Sem.run_pure, Result.andThen_ok]
      rw [show (choose (.nanBits .f64 i j)).run P w = .ok (Question.cut (.nanBits .f64 i j) (w.tape w.drawn (.nanBits .f64 i j))) { w with drawn := w.drawn + 1 } from rfl]
      simp only [Sem.run_bind, Sem.run_pure, Result.andThen_ok]
      exact after_drawn hs ⟨_, ⟨this.2, by rw [fo_n this.1, ← e, hv]⟩, rfl⟩) hn
theorem fad {t1 t2 : TypeId} [hx : IsF X a] [hy : IsF Y d] (hX : envl g x = some X) (hY : envl g y = some Y) (hn : J P ops fin r (OpS.p (T.F (oAdd a d)) :: H) (putg t (T.F (oAdd a d)) g) E) (hg : GuardIs ops g ⟨t, .binOp .add t1 x y t2, ty, ps, af, gd⟩ true := by exact gd0) : J P ops fin (⟨t, .binOp .add t1 x y t2, ty, ps, af, gd⟩ :: r) H g E :=
  far add_ok hX hY (fun ρ i j h1 h2 => by simp only [execOp, h1, h2, eqGuard, binOp, Op.floatArith]; rfl) hn hg
theorem fsb {t1 t2 : TypeId} [hx : IsF X a] [hy : IsF Y d] (hX : envl g x = some X) (hY : envl g y = some Y) (hn : J P ops fin r (OpS.p (T.F (oSub a d)) :: H) (putg t (T.F (oSub a d)) g) E) (hg : GuardIs ops g ⟨t, .binOp .sub t1 x y t2, ty, ps, af, gd⟩ true := by exact gd0) : J P ops fin (⟨t, .binOp .sub t1 x y t2, ty, ps, af, gd⟩ :: r) H g E :=
  far sub_ok hX hY (fun ρ i j h1 h2 => by simp only [execOp, h1, h2, eqGuard, binOp, Op.floatArith]; rfl) hn hg
theorem fml {t1 t2 : TypeId} [hx : IsF X a] [hy : IsF Y d] (hX : envl g x = some X) (hY : envl g y = some Y) (hn : J P ops fin r (OpS.p (T.F (oMul a d)) :: H) (putg t (T.F (oMul a d)) g) E) (hg : GuardIs ops g ⟨t, .binOp .mul t1 x y t2, ty, ps, af, gd⟩ true := by exact gd0) : J P ops fin (⟨t, .binOp .mul t1 x y t2, ty, ps, af, gd⟩ :: r) H g E :=
  far mul_ok hX hY (fun ρ i j h1 h2 => by simp only [execOp, h1, h2, eqGuard, binOp, Op.floatArith]; rfl) hn hg
/-- A call of a function without a body, that answers by a value. -/
theorem xt {f : FuncId} {tys : Array TypeId} {A C : Value} (hX : envl g x = some (T.c A)) (hr : ∀ w, (callFunc f #[A]).run P w = .ok (.value C) w) (hn : J P ops fin r (OpS.p (T.c C) :: H) (putg t (T.c C) g) E)
    (hg : GuardIs ops g ⟨t, .call ⟨.value (.func f), #[x], tys⟩, ty, ps, af, gd⟩ true := by exact gd0) : J P ops fin (⟨t, .call ⟨.value (.func f), #[x], tys⟩, ty, ps, af, gd⟩ :: r) H g E :=
  j_val hg (ok_pure fun ρ β u w F hs he hH => by
    have hf : ρ (.func f) = .func (.func f) #[] #[] := he (.func f) (show Operand.func f ∈ (#[Operand.func f] ++ #[x] : Array Operand) from by simp) _ rfl
    have h1 : ρ x = A := he x (show x ∈ (#[Operand.func f] ++ #[x] : Array Operand) from by simp) _ hX
    refine ⟨C, ?_, rfl⟩
    simp only [execOp, resolve, hf, Deferred.ofValue, Sem.run_bind, Sem.run_pure, Result.andThen_ok, invoke]
    rw [show (#[x].map ρ) = #[A] from by simp [h1]]
    simpa using hr w) hn
end
theorem v_le (A B : T) {a b : Option Nat} [ha : IsF A a] [hb : IsF B b] (hA : A.sz = 1 := by rfl) (hB : B.sz = 1 := by rfl) : (T.st [A, B]).le (T.st [T.F a, T.F b]) := st_le (l := [A, B]) (l' := [T.F a, T.F b]) ⟨ha.le, hb.le, trivial⟩ (by simp only [List.map_cons, List.map_nil, hA, hB]; rfl)
section
variable {P : Program} {ops : Array Oper} {fin : List OpS → List (Nat × T) → List (Nat × Option Ent) → Prop} {r : List Oper} {H : List OpS} {g : List (Nat × T)} {E : List (Nat × Option Ent)}
variable {t : Option Nat} {ty : TypeId} {ps : String} {af : Array Edge} {gd : Option (Nat × Bool)} {X : T}
/-- A call of a function; the arguments are what it asks for, floats among them. -/
theorem caf {f : FuncId} {zs : Array Operand} {tys : Array TypeId} {As Bs : List T} (hA : envs g zs.toList = some As)
    (hl : LeL As Bs := by repeat (first | exact trivial | refine ⟨?_, ?_⟩ | exact T.le.refl _ | exact IsF.le | exact v_le _ _ | exact IsZ.le | exact IsL2.le | exact IsL.le | exact q_le _ _ | assumption))
    (h : Fn P f Bs [] [] [] X) (hn : J P ops fin r (OpS.p X :: H) (putg t X g) E) (hen : Enters P f := by intro a w; kernel_rfl)
    (hg : GuardIs ops g ⟨t, .call ⟨.value (.func f), zs, tys⟩, ty, ps, af, gd⟩ true := by exact gd0) : J P ops fin (⟨t, .call ⟨.value (.func f), zs, tys⟩, ty, ps, af, gd⟩ :: r) H g E :=
  cl hA (fn_le h hl) hn hen hg
end
theorem run_f64bits (b : Nat) (w : World) : (callFunc 53 #[.float .f64 b]).run Try.prog w = .ok (.value (.int .u64 (b : Int))) w := by
  rw [run_callFunc_extern Try.func53 rfl rfl rfl rfl]; rfl
theorem run_f64from (z : Int) (w : World) : (callFunc 25 #[.int .u64 z]).run Try.prog w = .ok (.value (.float .f64 z.toNat)) w := by
  rw [run_callFunc_extern Try.func25 rfl rfl rfl rfl]; rfl
end Go.Proofs.Ytlmiadjogdfjkaa.V
