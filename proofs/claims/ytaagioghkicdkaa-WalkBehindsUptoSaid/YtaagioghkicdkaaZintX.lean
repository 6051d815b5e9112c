/- Contracts of package zint: quotients, rounded down. -/
import Derived.Test.YtaagioghkicdkaaZintD
set_option linter.unusedVariables false
set_option linter.unusedSimpArgs false
namespace Go.Proofs.Ytaagioghkicdkaa
open Go.RowKit Go.Proofs.YtaagioghkicdkaaW.PrintWords Mt

theorem ni_R {w : World} {b : Nat} {z : Int} {s : Bool} {v : Value} (h : cI.M w b (fun _ => True) z [.bool s, v]) : s = decide (z < 0) ∧ Kd.R (Kd.int .u32) 93 w b (fun _ => True) v (dig z.natAbs) := by
  obtain ⟨c0, c1, he, h1, h2⟩ := h
  have e1 : c0 = [.bool (decide (z < 0))] := h1
  obtain ⟨v', e2, h3⟩ := h2
  subst e1 e2
  simp at he
  obtain ⟨e3, e4⟩ := he
  subst e3 e4
  exact ⟨rfl, h3⟩
/-- Two rows of one's own that don't share a block. -/
def Apt (v u : Value) : Prop := ∀ k, v.ownBlock = some k → u.ownBlock ≠ some k
theorem Apt.symm {v u : Value} (h : Apt v u) : Apt u v := fun k hk hu => h k hu hk
theorem ni_apt {w1 w2 : World} {B1 B2 : Nat} {z y : Int} {s3 s4 : Bool} {v u : Value} (h1 : NI w1 B1 z [.bool s3, v]) (h2 : NI w2 B2 y [.bool s4, u]) (h : w1.heap.size ≤ B2) : Apt v u := fun k hk hu => by
  have := Kd.R_lt (ni_R h1).2 k hk
  have := Kd.R_base (ni_R h2).2 k hu
  omega
/-- Behind the quotient and the rest of the magnitudes, with their signs: two variables. -/
def FloorR (W0 wc : World) (B : Nat) (q r : Int) (v10 v11 : Value) : Prop :=
  ∃ g h s3 A3 n3 c3 s4 A4 n4 c4, v10 = .pointer (some ⟨g, 0, none⟩) ∧ v11 = .pointer (some ⟨h, 0, none⟩) ∧ g ≠ h ∧ B ≤ g ∧ B ≤ h ∧
    Blk2 wc g (.bool s3) (.slice A3 n3 c3) ∧ Blk2 wc h (.bool s4) (.slice A4 n4 c4) ∧ NI wc B q [.bool s3, .slice A3 n3 c3] ∧ NI wc B r [.bool s4, .slice A4 n4 c4] ∧ Below W0.heap.size W0 wc ∧ Apt (.slice A3 n3 c3) (.slice A4 n4 c4)

theorem floor_ex (s1 s2 : Bool) (M N : Nat) (h : intv s2 N ∣ intv s1 M) : intv s1 (M % N) = 0 := by
  have k := Int.natAbs_dvd_natAbs.2 h
  rw [intv_natAbs, intv_natAbs] at k
  rw [Nat.mod_eq_zero_of_dvd k]; unfold intv; split <;> rfl
theorem zl_one : zl 1 ≤ 1 := lim_le (by decide)
theorem floor_no (s1 s2 : Bool) (M N : Nat) (hN : 0 < N) (h : ¬ (intv s1 (M % N) ≠ 0 ∧ sg (intv s1 (M % N)) ≠ sg (intv s2 N))) :
    Int.fdiv (intv s1 M) (intv s2 N) = intv (!(s1 == s2)) (M / N) ∧ Int.fmod (intv s1 M) (intv s2 N) = intv s1 (M % N) := by
  have e := Nat.div_add_mod M N
  have l := Nat.mod_lt M hN
  have ee : intv s1 (M % N) + intv s2 N * intv (!(s1 == s2)) (M / N) = intv s1 M := by
    rw [intv_mul]
    have : (!(s2 == !(s1 == s2))) = s1 := by cases s1 <;> cases s2 <;> rfl
    rw [this, intv_add, Nat.add_comm, e]
  rw [sg_intv, sg_intv] at h
  generalize M % N = r at *
  generalize M / N = q at *
  cases s2
  · refine (Int.fdiv_fmod_unique (by simp [intv]; omega)).2 ⟨ee, ?_⟩
    cases s1 <;> simp [intv] at h ⊢ <;> omega
  · refine (Int.fdiv_fmod_unique' (by simp [intv]; omega)).2 ⟨ee, ?_⟩
    cases s1 <;> simp [intv] at h ⊢ <;> omega
theorem floor_yes (s1 s2 : Bool) (M N : Nat) (hN : 0 < N) (h : intv s1 (M % N) ≠ 0 ∧ sg (intv s1 (M % N)) ≠ sg (intv s2 N)) :
    Int.fdiv (intv s1 M) (intv s2 N) = intv (!(s1 == s2)) (M / N) - 1 ∧ Int.fmod (intv s1 M) (intv s2 N) = intv s1 (M % N) + intv s2 N := by
  have e := Nat.div_add_mod M N
  have l := Nat.mod_lt M hN
  have ee : intv s1 (M % N) + intv s2 N * intv (!(s1 == s2)) (M / N) = intv s1 M := by
    rw [intv_mul]
    have : (!(s2 == !(s1 == s2))) = s1 := by cases s1 <;> cases s2 <;> rfl
    rw [this, intv_add, Nat.add_comm, e]
  have ef : (intv s1 (M % N) + intv s2 N) + intv s2 N * (intv (!(s1 == s2)) (M / N) - 1) = intv s1 M := by rw [Int.mul_sub, Int.mul_one]; omega
  rw [sg_intv, sg_intv] at h
  generalize M % N = r at *
  generalize M / N = q at *
  cases s2
  · refine (Int.fdiv_fmod_unique (by simp [intv]; omega)).2 ⟨ef, ?_⟩
    cases s1 <;> simp [intv] at h ⊢ <;> omega
  · refine (Int.fdiv_fmod_unique' (by simp [intv]; omega)).2 ⟨ef, ?_⟩
    cases s1 <;> simp [intv] at h ⊢ <;> omega

/-- Two cells, and all that lies below, as they were at the start of a region. -/
theorem three {w1 W : World} {p q : Addr} {a b : Value} (k1 : w1.cell? p = some a) (k2 : w1.cell? q = some b) (hb : Below w1.heap.size w1 W) : W.cell? p = some a ∧ W.cell? q = some b ∧ Below w1.heap.size w1 W := ⟨pw_cell_below hb k1, pw_cell_below hb k2, hb⟩
theorem three_of {w1 W W2 : World} {p q : Addr} {a b : Value} (h : W.cell? p = some a ∧ W.cell? q = some b ∧ Below w1.heap.size w1 W) (k : Below W.heap.size W W2) : W2.cell? p = some a ∧ W2.cell? q = some b ∧ Below w1.heap.size w1 W2 := ⟨pw_cell_below k h.1, pw_cell_below k h.2.1, below_then h.2.2 h.2.2.size k⟩
theorem three_alloc {w1 W : World} {p q : Addr} {a b : Value} (h : W.cell? p = some a ∧ W.cell? q = some b ∧ Below w1.heap.size w1 W) (o : Obj) : (W.alloc o).cell? p = some a ∧ (W.alloc o).cell? q = some b ∧ Below w1.heap.size w1 (W.alloc o) := three_of h (below1 W o)
theorem three_drew {w1 W : World} {p q : Addr} {a b : Value} (h : W.cell? p = some a ∧ W.cell? q = some b ∧ Below w1.heap.size w1 W) : W.drew.cell? p = some a ∧ W.drew.cell? q = some b ∧ Below w1.heap.size w1 W.drew := three_of h (below_drew (Below.refl _ _))
theorem three_below {w1 W : World} (p q : Addr) (a b : Value) (h : W.cell? p = some a ∧ W.cell? q = some b ∧ Below w1.heap.size w1 W) : Below w1.heap.size w1 W := h.2.2
theorem three_set {w1 W : World} {p q : Nat} {a b : Value} (h : W.cell? ⟨p, 0, none⟩ = some a ∧ W.cell? ⟨q, 0, none⟩ = some b ∧ Below w1.heap.size w1 W) {k : Nat} (hk : w1.heap.size ≤ k) (hp : p < w1.heap.size) (hq : q < w1.heap.size) (j : Nat) (u : Value) : (W.setCell ⟨k, j, none⟩ u).cell? ⟨p, 0, none⟩ = some a ∧ (W.setCell ⟨k, j, none⟩ u).cell? ⟨q, 0, none⟩ = some b ∧ Below w1.heap.size w1 (W.setCell ⟨k, j, none⟩ u) := by
  have hb : Below w1.heap.size w1 (W.setCell ⟨k, j, none⟩ u) := h.2.2.setCell hk u
  exact ⟨(hb.cell (p := ⟨p, 0, none⟩) hp).trans ((h.2.2.cell (p := ⟨p, 0, none⟩) hp).symm.trans h.1), (hb.cell (p := ⟨q, 0, none⟩) hq).trans ((h.2.2.cell (p := ⟨q, 0, none⟩) hq).symm.trans h.2.1), hb⟩

theorem bl_drew {w1 W : World} (h : Below w1.heap.size w1 W) : Below w1.heap.size w1 W.drew := below_drew h
theorem bl_alloc {w1 W : World} (h : Below w1.heap.size w1 W) (o : Obj) : Below w1.heap.size w1 (W.alloc o) := below_then h h.size (below1 W o)
theorem bl_call {w1 W W2 : World} (h : Below w1.heap.size w1 W) (k : Below W.heap.size W W2) : Below w1.heap.size w1 W2 := below_then h h.size k
theorem five {w1 W : World} {p1 p2 p3 p4 : Addr} {a1 a2 a3 a4 : Value} (k1 : w1.cell? p1 = some a1) (k2 : w1.cell? p2 = some a2) (k3 : w1.cell? p3 = some a3) (k4 : w1.cell? p4 = some a4) (hb : Below w1.heap.size w1 W) : W.cell? p1 = some a1 ∧ W.cell? p2 = some a2 ∧ W.cell? p3 = some a3 ∧ W.cell? p4 = some a4 ∧ Below w1.heap.size w1 W := ⟨pw_cell_below hb k1, pw_cell_below hb k2, pw_cell_below hb k3, pw_cell_below hb k4, hb⟩

theorem Blk2.new' {w : World} {g : Nat} (hg : g = w.heap.size) (a b : Value) : Blk2 (w.alloc (.cells #[a, b] 31)) g a b := by subst hg; exact Blk2.new w a b
/-- A block of a whole number, whatever it holds. -/
def Kw (w : World) (g : Nat) : Prop := ∃ a b, Blk2 w g a b
theorem Kw.new {w : World} {g : Nat} (hg : g = w.heap.size) (a b : Value) : Kw (w.alloc (.cells #[a, b] 31)) g := ⟨a, b, Blk2.new' hg a b⟩
theorem Kw.alloc {w : World} {g : Nat} (h : Kw w g) (o : Obj) : Kw (w.alloc o) g := by obtain ⟨a, b, h⟩ := h; exact ⟨a, b, h.alloc o⟩
theorem Kw.drew {w : World} {g : Nat} (h : Kw w g) : Kw w.drew g := h
theorem Kw.below {w w1 : World} {g : Nat} (h : Kw w g) (hb : Below w.heap.size w w1) : Kw w1 g := by obtain ⟨a, b, h⟩ := h; exact ⟨a, b, h.below hb⟩
theorem Kw.set0 {w : World} {g : Nat} (h : Kw w g) (k : Nat) (u : Value) : Kw (w.setCell ⟨k, 0, none⟩ u) g := by
  obtain ⟨a, b, h⟩ := h
  by_cases e : g = k
  · subst e; exact ⟨_, _, h.set0 u⟩
  · exact ⟨_, _, h.far e 0 u⟩
theorem Kw.set1 {w : World} {g : Nat} (h : Kw w g) (k : Nat) (u : Value) : Kw (w.setCell ⟨k, 1, none⟩ u) g := by
  obtain ⟨a, b, h⟩ := h
  by_cases e : g = k
  · subst e; exact ⟨_, _, h.set1 u⟩
  · exact ⟨_, _, h.far e 1 u⟩
theorem NI.put {w : World} {B : Nat} {z : Int} {cs : List Value} (h : NI w B z cs) {g : Nat} (hg : Kw w g) (j : Nat) (u : Value) : NI (w.setCell ⟨g, j, none⟩ u) B z cs := h.set hg j u

set_option maxRecDepth 100000 in
set_option maxHeartbeats 30000000 in
theorem zint_FloorX (s1 : Bool) (A1 : Option Addr) (n1 c1 b1 : Nat) (x : Int) (s2 : Bool) (A2 : Option Addr) (n2 c2 b2 : Nat) (y : Int) (w : World) (h1 : GI w s1 A1 n1 c1 x b1) (h2 : GI w s2 A2 n2 c2 y b2) (hb1 : b1 ≤ 4398046511104) (hb2 : b2 ≤ 4398046511104) (hy : y ≠ 0) (hd : y ∣ x) :
    Calls Try.prog 128 #[.agg #[.bool s1, .slice A1 n1 c1], .agg #[.bool s2, .slice A2 n2 c2]] w fun e w' => ∃ s3 A3 n3 c3 s4 A4 n4 c4, e = .returned (.tuple #[.agg #[.bool s3, .slice A3 n3 c3], .agg #[.bool s4, .slice A4 n4 c4], .int .i64 0]) ∧
      NI w' w.heap.size (Int.fdiv x y) [.bool s3, .slice A3 n3 c3] ∧ NI w' w.heap.size (Int.fmod x y) [.bool s4, .slice A4 n4 c4] ∧ Below w.heap.size w w' ∧ Apt (.slice A3 n3 c3) (.slice A4 n4 c4) := by
  have R1 := Lib.hid (h1.below (below4 w (.cells #[.bool s1, .slice A1 n1 c1] 31) (.cells #[.bool s2, .slice A2 n2 c2] 31) (.cells #[.bool false, .slice none 0 0] 31) (.cells #[.bool false, .slice none 0 0] 31)))
  have R2 := Lib.hid (h2.below (below4 w (.cells #[.bool s1, .slice A1 n1 c1] 31) (.cells #[.bool s2, .slice A2 n2 c2] 31) (.cells #[.bool false, .slice none 0 0] 31) (.cells #[.bool false, .slice none 0 0] 31)))
  obtain ⟨k1, M, r1, rfl⟩ := R1.out
  obtain ⟨k2, N, r2, rfl⟩ := R2.out
  have l1 := r1.len_ge
  have l2 := r2.len_ge
  have hN : 0 < N := by
    rcases Nat.eq_zero_or_pos N with h | h
    · subst h; exact absurd (by unfold intv; split <;> rfl) hy
    · exact h
  have hex : Hid (intv s1 (M % N) = 0) := floor_ex s1 s2 M N hd
  clear hd
  have Q1 := Lib.hid r1
  have Q2 := Lib.hid r2
  clear r1 r2 h1 h2
  go_enter Try.func128, Try.ntmps128
  go_wp2_with fail
  with_reducible refine (nat_Div _ _ _ _ _ _ _ _ _ Q1.out Q2.out hN (by omega) (by omega)).mono ?_
  rintro e w1 ⟨C1, m1, d1, C2, m2, d2, rfl, hC1, hC2, hB⟩
  have L1 : m1 ≤ 4398046511104 := by rw [hC1.len]; have := lim_mono (Nat.div_le_self M N); omega
  have L2 : m2 ≤ 4398046511104 := by rw [hC2.len]; have := lim_mono (Nat.mod_le M N); omega
  obtain ⟨hc1, hf1⟩ := bcell hB
  have hz := hB.size
  simp at hz
  have z0 : w.heap.size < w1.heap.size := by omega
  have z1 : w.heap.size + 1 < w1.heap.size := by omega
  have z2 : w.heap.size + 1 + 1 < w1.heap.size := by omega
  have z3 : w.heap.size + 1 + 1 + 1 < w1.heap.size := by omega
  have S0 := keep2 hB (heap41 w (.cells #[.bool s1, .slice A1 n1 c1] 31) (.cells #[.bool s2, .slice A2 n2 c2] 31) (.cells #[.bool false, .slice none 0 0] 31) (.cells #[.bool false, .slice none 0 0] 31))
  have S1 := keep2 hB (heap42 w (.cells #[.bool s1, .slice A1 n1 c1] 31) (.cells #[.bool s2, .slice A2 n2 c2] 31) (.cells #[.bool false, .slice none 0 0] 31) (.cells #[.bool false, .slice none 0 0] 31))
  have HC1 := Lib.hid hC1
  have HC2 := Lib.hid hC2
  have HB := Lib.hid hB
  clear hC1 hC2 hB hc1 hf1
  go_upto_region 4 with (fail)
  go_cut [10, 11] (fun v10 v11 wc => FloorR ((((w.alloc (.cells #[.bool s1, .slice A1 n1 c1] 31)).alloc (.cells #[.bool s2, .slice A2 n2 c2] 31)).alloc (.cells #[.bool false, .slice none 0 0] 31)).alloc (.cells #[.bool false, .slice none 0 0] 31)) wc (w.heap.size + 4) (intv (!(s1 == s2)) (M / N)) (intv s1 (M % N)) v10 v11)
  case first =>
    have hdr : ∀ W : World, W.drew.heap = W.heap := fun _ => rfl
    have kk0 := S0.1
    have kk1 := S1.1
    go_region_held3 (fun w' => w'.cell? ⟨w.heap.size, 0, none⟩ = some (.bool s1) ∧ w'.cell? ⟨w.heap.size + 1, 0, none⟩ = some (.bool s2) ∧ Below w1.heap.size w1 w')
      (focus ((repeat (with_reducible first | assumption | exact three kk0 kk1 (Below.refl _ _) | refine three_drew ?_ | refine three_set ?_ (by omega) (by omega) (by omega) _ _ | refine three_alloc ?_ _ | refine three_of ?_ HBB.out | refine three_of ?_ HBA.out)); done))
      (first
        | (go_at_call_of 125 C1; (with_reducible refine calls_pre (fun hp => zint_made _ C1 _ _ (M / N) _ hp (by omega)) ?_ ?_); (focus ((refine HC1.out.rn.below (three_below ⟨w.heap.size, 0, none⟩ ⟨w.heap.size + 1, 0, none⟩ (.bool s1) (.bool s2) ?_)); (focus ((repeat (with_reducible first | assumption | exact three kk0 kk1 (Below.refl _ _) | refine three_drew ?_ | refine three_set ?_ (by omega) (by omega) (by omega) _ _ | refine three_alloc ?_ _ | refine three_of ?_ HBB.out | refine three_of ?_ HBA.out)); done)); done)); rintro e wA ⟨s3, A3, n3, c3, rfl, hMA, hBA⟩; obtain ⟨hcA, hfA⟩ := bcell hBA; (have hzA := hBA.size); (try simp only [World.size_alloc, hdr] at hzA); (have yA0 : w.heap.size < wA.heap.size := by omega); (have yA1 : w.heap.size + 1 < wA.heap.size := by omega); (try (have xa0 : w1.heap.size < wA.heap.size := by omega)); (try (have xa1 : w1.heap.size + 1 < wA.heap.size := by omega)); (have HMA : Hid (NI wA _ _ _) := Lib.hid hMA); (have HBA := Lib.hid hBA); clear hMA hBA)
        | (go_at_call_of 125 C2; (with_reducible refine calls_pre (fun hp => zint_made _ C2 _ _ (M % N) _ hp (by omega)) ?_ ?_); (focus ((refine HC2.out.rn.below (three_below ⟨w.heap.size, 0, none⟩ ⟨w.heap.size + 1, 0, none⟩ (.bool s1) (.bool s2) ?_)); (focus ((repeat (with_reducible first | assumption | exact three kk0 kk1 (Below.refl _ _) | refine three_drew ?_ | refine three_set ?_ (by omega) (by omega) (by omega) _ _ | refine three_alloc ?_ _ | refine three_of ?_ HBB.out | refine three_of ?_ HBA.out)); done)); done)); rintro e wB ⟨s4, A4, n4, c4, rfl, hMB, hBB⟩; obtain ⟨hcB, hfB⟩ := bcell hBB; (have hzB := hBB.size); (try simp only [World.size_alloc, hdr] at hzB); (have yB0 : w.heap.size < wB.heap.size := by omega); (have yB1 : w.heap.size + 1 < wB.heap.size := by omega); (try (have xb0 : w1.heap.size < wB.heap.size := by omega)); (try (have xb1 : w1.heap.size + 1 < wB.heap.size := by omega)); (try (have xb2 : wA.heap.size < wB.heap.size := by omega)); (try (have xb3 : wA.heap.size + 1 < wB.heap.size := by omega)); (have HMB : Hid (NI wB _ _ _) := Lib.hid hMB); (have HBB := Lib.hid hBB); clear hMB hBB))
    all_goals (go_wp2_with fail; go_meet)
    all_goals exact ⟨_, _, s3, A3, n3, c3, s4, A4, n4, c4, rfl, rfl, by omega, by omega, by omega, by (repeat (with_reducible first | exact Blk2.new' (by first | rfl | (simp only [World.size_alloc, World.size_setCell, hdr]; done) | (simp only [World.size_alloc, World.size_setCell, hdr]; omega)) _ _ | refine Blk2.set1 (b := .slice none 0 0) ?_ _ | refine Blk2.set0 (a := .bool false) ?_ _ | refine Blk2.far ?_ (by omega) _ _ | refine Blk2.alloc ?_ _ | refine Blk2.drew ?_ | refine Blk2.below ?_ HBB.out | refine Blk2.below ?_ HBA.out)), by (repeat (with_reducible first | exact Blk2.new' (by first | rfl | (simp only [World.size_alloc, World.size_setCell, hdr]; done) | (simp only [World.size_alloc, World.size_setCell, hdr]; omega)) _ _ | refine Blk2.set1 (b := .slice none 0 0) ?_ _ | refine Blk2.set0 (a := .bool false) ?_ _ | refine Blk2.far ?_ (by omega) _ _ | refine Blk2.alloc ?_ _ | refine Blk2.drew ?_ | refine Blk2.below ?_ HBB.out | refine Blk2.below ?_ HBA.out)), by (repeat (with_reducible first | exact NI.lower HMA.out (by first | omega | (simp only [World.size_alloc, World.size_setCell, hdr]; omega)) | refine NI.put ?_ ?_ _ _ | refine NI.alloc ?_ _ | refine NI.drew ?_ | refine NI.below ?_ HBB.out | refine NI.below ?_ HBA.out | exact Kw.new (by first | rfl | (simp only [World.size_alloc, World.size_setCell, hdr]; done) | (simp only [World.size_alloc, World.size_setCell, hdr]; omega)) _ _ | refine Kw.set0 ?_ _ _ | refine Kw.set1 ?_ _ _ | refine Kw.alloc ?_ _ | refine Kw.drew ?_ | refine Kw.below ?_ HBB.out | refine Kw.below ?_ HBA.out)), by (repeat (with_reducible first | exact NI.lower HMB.out (by first | omega | (simp only [World.size_alloc, World.size_setCell, hdr]; omega)) | refine NI.put ?_ ?_ _ _ | refine NI.alloc ?_ _ | refine NI.drew ?_ | refine NI.below ?_ HBB.out | refine NI.below ?_ HBA.out | exact Kw.new (by first | rfl | (simp only [World.size_alloc, World.size_setCell, hdr]; done) | (simp only [World.size_alloc, World.size_setCell, hdr]; omega)) _ _ | refine Kw.set0 ?_ _ _ | refine Kw.set1 ?_ _ _ | refine Kw.alloc ?_ _ | refine Kw.drew ?_ | refine Kw.below ?_ HBB.out | refine Kw.below ?_ HBA.out)), below_then HB.out HB.out.size (three_below ⟨w.heap.size, 0, none⟩ ⟨w.heap.size + 1, 0, none⟩ (.bool s1) (.bool s2) (by (repeat (with_reducible first | assumption | exact three kk0 kk1 (Below.refl _ _) | refine three_drew ?_ | refine three_set ?_ (by omega) (by omega) (by omega) _ _ | refine three_alloc ?_ _ | refine three_of ?_ HBB.out | refine three_of ?_ HBA.out)))), by first | exact ni_apt HMA.out HMB.out (by first | omega | (simp only [World.size_alloc, World.size_setCell, hdr]; omega)) | exact (ni_apt HMB.out HMA.out (by first | omega | (simp only [World.size_alloc, World.size_setCell, hdr]; omega))).symm⟩
  case rest =>
    rename World => w2
    clear S0 S1 HC1 HC2
    obtain ⟨g, h, s3, A3, n3, c3, s4, A4, n4, c4, rfl, rfl, hgh, hg1, hh1, bq, br, nq, nr, hbl, hap0⟩ := hcut
    have HAP := Lib.hid hap0
    clear hap0
    have hdr : ∀ W : World, W.drew.heap = W.heap := fun _ => rfl
    obtain ⟨e1, e2, e3, e4⟩ := bq.cells
    obtain ⟨f1, f2, f3, f4⟩ := br.cells
    obtain ⟨p1, p2, p3, p4, p5⟩ := keep2 hbl (heap42 w (.cells #[.bool s1, .slice A1 n1 c1] 31) (.cells #[.bool s2, .slice A2 n2 c2] 31) (.cells #[.bool false, .slice none 0 0] 31) (.cells #[.bool false, .slice none 0 0] 31))
    have GB := Lib.hid (R2.out.below hbl)
    have GR := Lib.hid (nr.ci.gi (b := b1) (by unfold zl; rw [intv_natAbs]; have := lim_mono (Nat.mod_le M N); omega))
    have BQ := Lib.hid bq
    have BR := Lib.hid br
    have NQ := Lib.hid nq
    have NR := Lib.hid nr
    have HL := Lib.hid hbl
    clear bq br nq nr hbl R1 R2 Q1 Q2 HB
    have hdec : (intv s1 (M % N) = 0 ∧ sg (intv s1 (M % N)) = 0) ∨ (sg (intv s1 (M % N)) = 1 ∧ 0 < intv s1 (M % N)) ∨ (sg (intv s1 (M % N)) = -1 ∧ intv s1 (M % N) < 0) := by
      rcases Int.lt_trichotomy (intv s1 (M % N)) 0 with k | k | k
      · exact .inr (.inr ⟨sg_neg k, k⟩)
      · exact .inl ⟨k, by rw [k, sg_zero]⟩
      · exact .inr (.inl ⟨sg_pos k, k⟩)
    have hdb : (sg (intv s2 N) = 1 ∧ 0 < intv s2 N) ∨ (sg (intv s2 N) = -1 ∧ intv s2 N < 0) := by
      rcases Int.lt_trichotomy (intv s2 N) 0 with k | k | k
      · exact .inr ⟨sg_neg k, k⟩
      · exact absurd k hy
      · exact .inl ⟨sg_pos k, k⟩
    have HH : Hid ((intv s1 (M % N) = 0 ∧ sg (intv s1 (M % N)) = 0) ∨ (sg (intv s1 (M % N)) = 1 ∧ 0 < intv s1 (M % N)) ∨ (sg (intv s1 (M % N)) = -1 ∧ intv s1 (M % N) < 0)) := hdec
    have HHB : Hid ((sg (intv s2 N) = 1 ∧ 0 < intv s2 N) ∨ (sg (intv s2 N) = -1 ∧ intv s2 N < 0)) := hdb
    clear hdec hdb hy
    go_upto_region 5 with (fail)
    go_cut [45] (fun v45 w' => Below w2.heap.size w2 w' ∧ v45 = .bool (decide (intv s1 (M % N) ≠ 0 ∧ sg (intv s1 (M % N)) ≠ sg (intv s2 N))))
    case first =>
      rcases HH.out with ⟨z0, sr⟩ | hnz
      · have Z0 := Lib.hid z0
        clear z0
        go_region_with
        (first
          | (go_at_call_of 55 A4; (with_reducible refine calls_pre (fun hp => zint_Sign _ A4 _ _ b1 (intv s1 (M % N)) _ hp hb1) ?_ ?_); (focus ((refine GR.out.below ?_); (repeat (with_reducible first | exact Below.refl _ _ | exact below_drew (Below.refl _ _) | refine bl_drew ?_ | refine bl_alloc ?_ _ | refine bl_call ?_ (RowKit.Hid.out (by assumption)))); done)); rintro e wA ⟨rfl, hX⟩; (have HX := Lib.hid hX); clear hX))
        all_goals (go_wp2_with fail; go_meet)
        all_goals exact ⟨by (repeat (with_reducible first | exact Below.refl _ _ | exact below_drew (Below.refl _ _) | refine bl_drew ?_ | refine bl_alloc ?_ _ | refine bl_call ?_ (RowKit.Hid.out (by assumption)))), by simp [Z0.out]⟩
      · rcases hnz with ⟨sr, z0⟩ | ⟨sr, z0⟩ <;> rcases HHB.out with ⟨sb, z1⟩ | ⟨sb, z1⟩
        all_goals have Z0 := Lib.hid z0
        all_goals have Z1 := Lib.hid z1
        all_goals clear z0 z1
        all_goals go_region_held3 (fun w' => w'.cell? ⟨h, 0, none⟩ = some (.bool s4) ∧ w'.cell? ⟨h, 1, none⟩ = some (.slice A4 n4 c4) ∧ w'.cell? ⟨w.heap.size + 1, 0, none⟩ = some (.bool s2) ∧ w'.cell? ⟨w.heap.size + 1, 1, none⟩ = some (.slice A2 n2 c2) ∧ Below w2.heap.size w2 w')
          (focus ((refine five f1 f2 p1 p2 ?_); (repeat (with_reducible first | exact Below.refl _ _ | exact below_drew (Below.refl _ _) | refine bl_drew ?_ | refine bl_alloc ?_ _ | refine bl_call ?_ (RowKit.Hid.out (by assumption)))); done))
          (first
            | (go_at_call_of 55 A4; (with_reducible refine calls_pre (fun hp => zint_Sign _ A4 _ _ b1 (intv s1 (M % N)) _ hp hb1) ?_ ?_); (focus ((refine GR.out.below ?_); (repeat (with_reducible first | exact Below.refl _ _ | exact below_drew (Below.refl _ _) | refine bl_drew ?_ | refine bl_alloc ?_ _ | refine bl_call ?_ (RowKit.Hid.out (by assumption)))); done)); rintro e wA ⟨rfl, hX⟩; (have HX := Lib.hid hX); clear hX)
            | (go_at_call_of 55 A2; (with_reducible refine calls_pre (fun hp => zint_Sign _ A2 _ _ b2 (intv s2 N) _ hp hb2) ?_ ?_); (focus ((refine GB.out.below ?_); (repeat (with_reducible first | exact Below.refl _ _ | exact below_drew (Below.refl _ _) | refine bl_drew ?_ | refine bl_alloc ?_ _ | refine bl_call ?_ (RowKit.Hid.out (by assumption)))); done)); rintro e wA ⟨rfl, hX⟩; (have HX := Lib.hid hX); clear hX))
        all_goals (go_wp2_with fail; go_meet)
        all_goals exact ⟨by (repeat (with_reducible first | exact Below.refl _ _ | exact below_drew (Below.refl _ _) | refine bl_drew ?_ | refine bl_alloc ?_ _ | refine bl_call ?_ (RowKit.Hid.out (by assumption)))), by rw [sr, sb]; have := Z0.out; simp <;> omega⟩
    case rest =>
      obtain ⟨hW, rfl⟩ := hcut
      have HW := Lib.hid hW
      obtain ⟨g1, g2, g3, g4, g5⟩ := keep2 hW BQ.out
      obtain ⟨m1, m2, m3, m4, m5⟩ := keep2 hW BR.out
      have o1 := pw_cell_below hW p1
      have o2 := pw_cell_below hW p2
      obtain ⟨y1, y2, y3, y4, y5⟩ := keep2 (below_then HL.out HL.out.size hW) (heap43 w (.cells #[.bool s1, .slice A1 n1 c1] 31) (.cells #[.bool s2, .slice A2 n2 c2] 31) (.cells #[.bool false, .slice none 0 0] 31) (.cells #[.bool false, .slice none 0 0] 31))
      obtain ⟨x1, x2, x3, x4, x5⟩ := keep2 (below_then HL.out HL.out.size hW) (heap44 w (.cells #[.bool s1, .slice A1 n1 c1] 31) (.cells #[.bool s2, .slice A2 n2 c2] 31) (.cells #[.bool false, .slice none 0 0] 31) (.cells #[.bool false, .slice none 0 0] 31))
      clear hW e1 e2 e3 e4 f1 f2 f3 f4 p1 p2 p3 p4 p5
      go_upto_if 45 with (fail)
      go_cut [10, 11] (fun v10 v11 w' => FloorR ((((w.alloc (.cells #[.bool s1, .slice A1 n1 c1] 31)).alloc (.cells #[.bool s2, .slice A2 n2 c2] 31)).alloc (.cells #[.bool false, .slice none 0 0] 31)).alloc (.cells #[.bool false, .slice none 0 0] 31)) w' (w.heap.size + 4) (Int.fdiv (intv s1 M) (intv s2 N)) (Int.fmod (intv s1 M) (intv s2 N)) v10 v11)
      case first =>
        by_cases hc : intv s1 (M % N) ≠ 0 ∧ sg (intv s1 (M % N)) ≠ sg (intv s2 N)
        · exact absurd hex.out hc.1
        · have t45 : decide (intv s1 (M % N) ≠ 0 ∧ sg (intv s1 (M % N)) ≠ sg (intv s2 N)) = false := decide_eq_false hc
          have HC := Lib.hid hc
          clear hc
          go_wp2_with fail
          go_meet
          obtain ⟨u1, u2⟩ := floor_no s1 s2 M N hN HC.out
          rw [u1, u2]
          exact ⟨g, h, s3, A3, n3, c3, s4, A4, n4, c4, rfl, rfl, hgh, hg1, hh1, BQ.out.below HW.out, BR.out.below HW.out, NQ.out.below HW.out, NR.out.below HW.out, below_then HL.out HL.out.size HW.out, HAP.out⟩
      case rest =>
        rename World => w3
        clear m1 m2 m3 m4 m5 g1 g2 g3 g4 g5 BQ BR NQ NR
        obtain ⟨g', h', s5, A5, n5, c5, s6, A6, n6, c6, rfl, rfl, hgh', hg1', hh1', bq, br, nq, nr, hbl, hap0⟩ := hcut
        have HAP2 := Lib.hid hap0
        clear hap0
        obtain ⟨e1, e2, e3, e4⟩ := bq.cells
        obtain ⟨f1, f2, f3, f4⟩ := br.cells
        obtain ⟨y1, y2, y3, y4, y5⟩ := keep2 hbl (heap43 w (.cells #[.bool s1, .slice A1 n1 c1] 31) (.cells #[.bool s2, .slice A2 n2 c2] 31) (.cells #[.bool false, .slice none 0 0] 31) (.cells #[.bool false, .slice none 0 0] 31))
        obtain ⟨x1, x2, x3, x4, x5⟩ := keep2 hbl (heap44 w (.cells #[.bool s1, .slice A1 n1 c1] 31) (.cells #[.bool s2, .slice A2 n2 c2] 31) (.cells #[.bool false, .slice none 0 0] 31) (.cells #[.bool false, .slice none 0 0] 31))
        have NQ := Lib.hid nq
        have NR := Lib.hid nr
        have HL2 := Lib.hid hbl
        have K2 : Hid (Kw w3 (w.heap.size + 1 + 1)) := ⟨_, _, Blk2.below (heap43 w (.cells #[.bool s1, .slice A1 n1 c1] 31) (.cells #[.bool s2, .slice A2 n2 c2] 31) (.cells #[.bool false, .slice none 0 0] 31) (.cells #[.bool false, .slice none 0 0] 31)) hbl⟩
        have K3 : Hid (Kw w3 (w.heap.size + 1 + 1 + 1)) := ⟨_, _, Blk2.below (heap44 w (.cells #[.bool s1, .slice A1 n1 c1] 31) (.cells #[.bool s2, .slice A2 n2 c2] 31) (.cells #[.bool false, .slice none 0 0] 31) (.cells #[.bool false, .slice none 0 0] 31)) hbl⟩
        clear bq br nq nr hbl HL
        go_upto_region 7 with (fail)
        go_region
        all_goals go_wp2_with fail
        all_goals refine bodyPost_ret (v := .tuple #[.agg #[.bool s5, .slice A5 n5 c5], .agg #[.bool s6, .slice A6 n6 c6], .int .i64 0]) (by simp [results, Try.results128, go_sem, y1, y2, y3, y4, y5, x1, x2, x3, x4, x5]) rfl ?_
        all_goals refine ⟨s5, A5, n5, c5, s6, A6, n6, c6, rfl, ?_, ?_, ?_, HAP2.out⟩
        · exact NI.drew ((((NQ.out.lower (by omega)).put K2.out 0 _).put (K2.out.set0 _ _) 1 _).put ((K3.out.set0 _ _).set1 _ _) 0 _ |>.put (((K3.out.set0 _ _).set1 _ _).set0 _ _) 1 _)
        · exact NI.drew ((((NR.out.lower (by omega)).put K2.out 0 _).put (K2.out.set0 _ _) 1 _).put ((K3.out.set0 _ _).set1 _ _) 0 _ |>.put (((K3.out.set0 _ _).set1 _ _).set0 _ _) 1 _)
        · exact below_drew (((((below_then (below4 _ _ _ _ _) (by simp; omega) HL2.out).setCell (by show _ ≤ w.heap.size + 1 + 1; omega) _).setCell (by show _ ≤ w.heap.size + 1 + 1; omega) _).setCell (by show _ ≤ w.heap.size + 1 + 1 + 1; omega) _).setCell (by show _ ≤ w.heap.size + 1 + 1 + 1; omega) _)

end Go.Proofs.Ytaagioghkicdkaa
