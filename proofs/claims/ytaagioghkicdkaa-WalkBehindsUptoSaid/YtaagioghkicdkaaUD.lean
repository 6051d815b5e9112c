/- Whole numbers and rationals as values. -/
import Derived.Test.YtaagioghkicdkaaUC
import Derived.Test.YtaagioghkicdkaaZintX
set_option linter.unusedVariables false
set_option linter.unusedSimpArgs false
namespace Go.Proofs.Ytaagioghkicdkaa
open Go.RowKit Go.Proofs.YtaagioghkicdkaaW.PrintWords Mt

theorem readsInt_sub {u w : World} {k : IntKind} {A : Option Addr} {n : Nat} {xs : List Int} (h : ReadsInt u k A n xs) (hs : Sub u w) : ReadsInt w k A n xs := by
  obtain ⟨h1, h2, h3⟩ := h
  refine ⟨h1, h2, fun hp => ?_⟩
  obtain ⟨ad, e, hc⟩ := h3 hp
  exact ⟨ad, e, fun j hj => hs _ _ (hc j hj)⟩
theorem RN.sub {u w : World} {A : Option Addr} {n c N : Nat} (h : RN u A n c N) (hs : Sub u w) : RN w A n c N := by
  obtain ⟨h0, xs, h1, h2⟩ := h
  exact ⟨h0, xs, readsInt_sub h1 hs, h2⟩
theorem CN.sub {u w : World} {A : Option Addr} {n c N : Nat} (h : CN u A n c N) (hs : Sub u w) : CN w A n c N := ⟨h.1, readsInt_sub h.2 hs⟩
theorem GI.sub {u w : World} {s : Bool} {A : Option Addr} {n c b : Nat} {z : Int} (h : GI u s A n c z b) (hs : Sub u w) : GI w s A n c z b := ⟨h.1, let ⟨N, h1, h2⟩ := h.2; ⟨N, h1.sub hs, h2⟩⟩
theorem CI.sub {u w : World} {s : Bool} {A : Option Addr} {n c : Nat} {z : Int} (h : CI u s A n c z) (hs : Sub u w) : CI w s A n c z := ⟨h.1, h.2.sub hs⟩
/-- Limbs. -/
def Lv (u : World) (v : Value) (N b : Nat) : Prop := ∃ A n c, v = .slice A n c ∧ n ≤ b ∧ RN u A n c N
def LCv (u : World) (v : Value) (N : Nat) : Prop := ∃ A n c, v = .slice A n c ∧ CN u A n c N
/-- A whole number of at most b limbs; one in one form. -/
def Iv (u : World) (v : Value) (z : Int) (b : Nat) : Prop := ∃ s A n c, v = .agg #[.bool s, .slice A n c] ∧ GI u s A n c z b
def Cv (u : World) (v : Value) (z : Int) : Prop := ∃ s A n c, v = .agg #[.bool s, .slice A n c] ∧ CI u s A n c z
theorem Lv.sub {u w : World} {v : Value} {N b : Nat} (h : Lv u v N b) (hs : Sub u w) : Lv w v N b := let ⟨A, n, c, e, hb, h⟩ := h; ⟨A, n, c, e, hb, h.sub hs⟩
theorem LCv.sub {u w : World} {v : Value} {N : Nat} (h : LCv u v N) (hs : Sub u w) : LCv w v N := let ⟨A, n, c, e, h⟩ := h; ⟨A, n, c, e, h.sub hs⟩
theorem Iv.sub {u w : World} {v : Value} {z : Int} {b : Nat} (h : Iv u v z b) (hs : Sub u w) : Iv w v z b := let ⟨s, A, n, c, e, h⟩ := h; ⟨s, A, n, c, e, h.sub hs⟩
theorem Cv.sub {u w : World} {v : Value} {z : Int} (h : Cv u v z) (hs : Sub u w) : Cv w v z := let ⟨s, A, n, c, e, h⟩ := h; ⟨s, A, n, c, e, h.sub hs⟩
theorem Cv.iv {u : World} {v : Value} {z : Int} {b : Nat} (h : Cv u v z) (hb : zl z ≤ b) : Iv u v z b := let ⟨s, A, n, c, e, h⟩ := h; ⟨s, A, n, c, e, h.gi hb⟩
theorem Iv.mono {u : World} {v : Value} {z : Int} {b b' : Nat} (h : Iv u v z b) (hb : b ≤ b') : Iv u v z b' := let ⟨s, A, n, c, e, h⟩ := h; ⟨s, A, n, c, e, h.mono hb⟩
theorem Iv.zl {u : World} {v : Value} {z : Int} {b : Nat} (h : Iv u v z b) : zl z ≤ b := let ⟨s, A, n, c, e, h⟩ := h; h.zl
/-- A rational: what stands above, what below; in lowest terms. -/
def Qv (u : World) (v : Value) (x y : Int) (b : Nat) : Prop := ∃ s A n c t D m e, v = .agg #[.bool s, .slice A n c, .bool t, .slice D m e] ∧ GI u s A n c x b ∧ GI u t D m e y b
def CQv (u : World) (v : Value) (q : Rat) : Prop := ∃ s A n c t D m e, v = .agg #[.bool s, .slice A n c, .bool t, .slice D m e] ∧ CI u s A n c q.num ∧ CI u t D m e q.den
theorem Qv.sub {u w : World} {v : Value} {x y : Int} {b : Nat} (h : Qv u v x y b) (hs : Sub u w) : Qv w v x y b := let ⟨s, A, n, c, t, D, m, e, h0, h1, h2⟩ := h; ⟨s, A, n, c, t, D, m, e, h0, h1.sub hs, h2.sub hs⟩
theorem CQv.sub {u w : World} {v : Value} {q : Rat} (h : CQv u v q) (hs : Sub u w) : CQv w v q := let ⟨s, A, n, c, t, D, m, e, h0, h1, h2⟩ := h; ⟨s, A, n, c, t, D, m, e, h0, h1.sub hs, h2.sub hs⟩
theorem Iv.m (z : Int) (b : Nat) : Mono fun u v => Iv u v z b := fun _ _ _ hs h => h.sub hs
theorem Cv.m (z : Int) : Mono fun u v => Cv u v z := fun _ _ _ hs h => h.sub hs
theorem CQv.m (q : Rat) : Mono fun u v => CQv u v q := fun _ _ _ hs h => h.sub hs
theorem LCv.m (N : Nat) : Mono fun u v => LCv u v N := fun _ _ _ hs h => h.sub hs
theorem Cv.flat {u : World} {v : Value} {z : Int} (h : Cv u v z) : Flat v 2 := by obtain ⟨s, A, n, c, rfl, _⟩ := h; exact ⟨rfl, rfl⟩
theorem Iv.flat {u : World} {v : Value} {z : Int} {b : Nat} (h : Iv u v z b) : Flat v 2 := by obtain ⟨s, A, n, c, rfl, _⟩ := h; exact ⟨rfl, rfl⟩
theorem CQv.flat {u : World} {v : Value} {q : Rat} (h : CQv u v q) : Flat v 4 := by obtain ⟨s, A, n, c, t, D, m, e, rfl, _⟩ := h; exact ⟨rfl, rfl⟩
theorem LCv.flat {u : World} {v : Value} {N : Nat} (h : LCv u v N) : Flat v 1 := by obtain ⟨A, n, c, rfl, _⟩ := h; exact ⟨rfl, rfl⟩
theorem mixed : Try.prog.follows .mixedOrders = true := by kernel_rfl
end Go.Proofs.Ytaagioghkicdkaa
