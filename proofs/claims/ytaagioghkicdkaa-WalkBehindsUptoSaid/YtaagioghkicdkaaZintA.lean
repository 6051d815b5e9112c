/- Contracts of package zint: whole numbers; their kinds. -/
import Derived.Test.YtaagioghkicdkaaNatH
set_option linter.unusedVariables false
set_option linter.unusedSimpArgs false
namespace Go.Proofs.Ytaagioghkicdkaa
open Go.RowKit Go.Proofs.YtaagioghkicdkaaW.PrintWords Mt

set_option maxRecDepth 100000 in
set_option maxHeartbeats 800000 in
theorem nat_Gcd (A B : Option Addr) (na nb ca cb M N : Nat) (w : World) (ha : RN w A na ca M) (hb : RN w B nb cb N) (hsa : na ≤ 8796093022208) (hsb : nb ≤ 8796093022208) :
    Calls Try.prog 182 #[.slice A na ca, .slice B nb cb] w fun e w' => ∃ C n c, e = .returned (.slice C n c) ∧ CN w' C n c (Nat.gcd M N) ∧ Below w.heap.size w w' := by
  have hl1 := ha.len_ge
  have hl2 := hb.len_ge
  go_enter Try.func182, Try.ntmps182
  go_wp2_with fail
  with_reducible refine (nat_Norm _ _ _ _ _ ha (by omega)).mono ?_
  rintro e w1 ⟨C1, n1, c1, rfl, hC1, hB1, _⟩
  have hb1 := hb.below hB1
  go_wp2_with fail
  with_reducible refine (nat_Norm _ _ _ _ _ hb1 (by omega)).mono ?_
  rintro e w2 ⟨C2, n2, c2, rfl, hC2, hB2, _⟩
  have HC1 := Lib.hid (hC1.below hB2)
  have HC2 := Lib.hid hC2
  have HB2 := Lib.hid (hB1.trans ((hB2.mono hB1.size)))
  clear ha hb hb1 hC1 hB1 hC2 hB2
  go_wp2
  go_loopg [5, 6] N (fun gk x y wr => ∃ (X : Nat) (C1 : Option Addr) (n1 c1 : Nat) (C2 : Option Addr) (n2 c2 : Nat), x = .slice C1 n1 c1 ∧ y = .slice C2 n2 c2 ∧ CN wr C1 n1 c1 X ∧ CN wr C2 n2 c2 gk ∧ Nat.gcd X gk = Nat.gcd M N ∧ lim X ≤ 8796093022208 ∧ lim gk ≤ 8796093022208 ∧ Below w.heap.size w wr)
  case atStart => exact ⟨M, _, _, _, _, _, _, rfl, rfl, HC1.out, HC2.out, rfl, by omega, by omega, HB2.out⟩
  case round =>
    clear HC1 HC2 HB2
    obtain ⟨X, C1, n1, c1, C2, n2, c2, rfl, rfl, hC1, hC2, hg, hx, hy, hB⟩ := hrel
    have e1 := hC1.len
    have e2 := hC2.len
    have HC1 := Lib.hid hC1
    have HC2 := Lib.hid hC2
    have HG := Lib.hid hg
    have HB := Lib.hid hB
    have E1 := Lib.hid e1
    have E2 := Lib.hid e2
    clear hC1 hC2 hg hB
    rcases Nat.eq_zero_or_pos gk with h0 | h0
    · subst h0
      rw [lim_zero] at e2
      subst e2
      rw [Nat.gcd_zero_right] at HG
      rw [HG.out] at HC1
      clear e1
      go_wp2
      go_ret
      exact ⟨_, _, _, rfl, HC1.out, HB.out⟩
    · have hn2 : 0 < n2 := by
        rcases Nat.eq_zero_or_pos n2 with h | h
        · rw [e2] at h
          have := dig_val gk
          rw [List.eq_nil_of_length_eq_zero h] at this
          simp [val] at this; omega
        · exact h
      have l1 : n1 ≤ 8796093022208 := by omega
      have l2 : n2 ≤ 8796093022208 := by omega
      clear e1 e2
      go_wp2_with fail
      with_reducible refine (nat_Div _ _ _ _ _ _ _ _ _ HC1.out.rn HC2.out.rn h0 l1 l2).mono ?_
      rintro e w3 ⟨D1, m1, d1, D2, m2, d2, rfl, hD1, hD2, hB3⟩
      have HD2 := Lib.hid hD2
      have HC3 := Lib.hid (HC2.out.below hB3)
      have HB3 := Lib.hid (HB.out.trans (hB3.mono HB.out.size))
      have hml := lim_mono (Nat.le_of_lt (Nat.mod_lt X h0))
      clear hD1 hD2 hB3
      go_wp2
      go_roundg (X % gk)
      case rel => exact ⟨gk, _, _, _, _, _, _, rfl, rfl, HC3.out, HD2.out, by rw [← HG.out, Nat.gcd_comm X gk, Nat.gcd_rec gk X, Nat.gcd_comm], hy, by omega, HB3.out⟩
      case measure => exact Nat.mod_lt X h0

/-! ### kinds -/
/-- A kind by what it says. -/
def absK {α β : Type} (d : Kd α) (R : α → β → Prop) : Kd β where
  sz := d.sz
  E := d.E
  K := fun w y cs => ∃ x, R x y ∧ d.K w x cs
  M := fun w base ok y cs => ∃ x, R x y ∧ d.M w base ok x cs
  K_len := fun ⟨_, _, h⟩ => d.K_len h
  K_one := fun ⟨_, _, h⟩ => d.K_one h
  K_below := fun hb ⟨x, r, h⟩ => ⟨x, r, d.K_below hb h⟩
  K_of_M := fun ⟨x, r, h⟩ => ⟨x, r, d.K_of_M h⟩
  M_mono := fun hk ⟨x, r, h⟩ => ⟨x, r, d.M_mono hk h⟩
  M_bound := fun ⟨x, r, h⟩ => ⟨x, r, d.M_bound h⟩
  M_move := fun hm ⟨x, r, h⟩ => ⟨x, r, d.M_move hm h⟩
  M_lower := fun hb ⟨x, r, h⟩ => ⟨x, r, d.M_lower hb h⟩
/-- A number of a sign and a magnitude. -/
def intv (s : Bool) (N : Nat) : Int := if s then -(N : Int) else N
/-- A sign and limbs. -/
def dI : Kd (Bool × List Int) := Kd.pair Kd.bool (Kd.slice 93 (Kd.int .u32))
/-- A whole number in one form. -/
def cI : Kd Int := Kd.iso dI (fun z => (decide (z < 0), dig z.natAbs))
/-- A whole number in whatever form, of at most b limbs. -/
def gI (b : Nat) : Kd Int := absK dI (fun p z => Lim p.2 ∧ p.2.length ≤ b ∧ ∃ N : Nat, val p.2 = N ∧ z = intv p.1 N)

/-- What is read of a number of at most b limbs. -/
def GI (w : World) (s : Bool) (A : Option Addr) (n c : Nat) (z : Int) (b : Nat) : Prop := n ≤ b ∧ ∃ N, RN w A n c N ∧ z = intv s N
/-- What is read of one in one form. -/
def CI (w : World) (s : Bool) (A : Option Addr) (n c : Nat) (z : Int) : Prop := s = decide (z < 0) ∧ CN w A n c z.natAbs
/-- How many limbs. -/
def zl (z : Int) : Nat := lim z.natAbs
theorem intv_natAbs (s : Bool) (N : Nat) : (intv s N).natAbs = N := by unfold intv; split <;> omega
theorem intv_sign {z : Int} : intv (decide (z < 0)) z.natAbs = z := by unfold intv; split <;> simp_all <;> omega
theorem GI.below {w w1 : World} {s : Bool} {A : Option Addr} {n c b : Nat} {z : Int} (h : GI w s A n c z b) (hb : Below w.heap.size w w1) : GI w1 s A n c z b := ⟨h.1, let ⟨N, h1, h2⟩ := h.2; ⟨N, h1.below hb, h2⟩⟩
theorem CI.below {w w1 : World} {s : Bool} {A : Option Addr} {n c : Nat} {z : Int} (h : CI w s A n c z) (hb : Below w.heap.size w w1) : CI w1 s A n c z := ⟨h.1, h.2.below hb⟩
theorem CI.gi {w : World} {s : Bool} {A : Option Addr} {n c b : Nat} {z : Int} (h : CI w s A n c z) (hb : zl z ≤ b) : GI w s A n c z b := ⟨by rw [h.2.len]; exact hb, _, h.2.rn, by rw [h.1, intv_sign]⟩
theorem GI.drew {w : World} {s : Bool} {A : Option Addr} {n c b : Nat} {z : Int} (h : GI w s A n c z b) : GI w.drew s A n c z b := h.below (below_drew (Below.refl _ _))
theorem GI.mono {w : World} {s : Bool} {A : Option Addr} {n c b b' : Nat} {z : Int} (h : GI w s A n c z b) (hb : b ≤ b') : GI w s A n c z b' := ⟨Nat.le_trans h.1 hb, h.2⟩
theorem GI.zl {w : World} {s : Bool} {A : Option Addr} {n c b : Nat} {z : Int} (h : GI w s A n c z b) : zl z ≤ b := by
  obtain ⟨h1, N, h2, h3⟩ := h
  unfold Go.Proofs.Ytaagioghkicdkaa.zl
  rw [h3, intv_natAbs]
  exact Nat.le_trans h2.len_ge h1
theorem gI_open {w : World} {b : Nat} {z : Int} {cs : List Value} (h : (gI b).K w z cs) : ∃ s A n c, cs = [.bool s, .slice A n c] ∧ GI w s A n c z b := by
  obtain ⟨⟨s, xs⟩, ⟨h1, h2, N, h3, h4⟩, c0, c1, rfl, rfl, A, c, rfl, h5, h6⟩ := h
  exact ⟨s, A, xs.length, c, rfl, h2, N, ⟨h5, xs, by have := Kd.reads_of_C (d := (0 : Int)) h6; exact this, h1, h3⟩, h4⟩
theorem cI_open {w : World} {z : Int} {cs : List Value} (h : cI.K w z cs) : ∃ s A n c, cs = [.bool s, .slice A n c] ∧ CI w s A n c z := by
  obtain ⟨c0, c1, rfl, rfl, A, c, rfl, h5, h6⟩ := h
  exact ⟨_, A, _, c, rfl, rfl, h5, by have := Kd.reads_of_C (d := (0 : Int)) h6; exact this⟩
theorem cI_CI {w : World} {z : Int} {s : Bool} {A : Option Addr} {n c : Nat} (h : cI.K w z [.bool s, .slice A n c]) : CI w s A n c z := by
  obtain ⟨s', A', n', c', he, h⟩ := cI_open h
  cases he
  exact h
theorem CI.K {w : World} {z : Int} {s : Bool} {A : Option Addr} {n c : Nat} (h : CI w s A n c z) : cI.K w z [.bool s, .slice A n c] := by
  obtain ⟨h1, h2, h3⟩ := h
  have hl : (dig z.natAbs).length = n := h3.1
  subst h1
  exact ⟨[.bool _], [.slice A n c], rfl, rfl, A, c, by show _ = [Value.slice A (dig z.natAbs).length c]; rw [hl], by show (dig z.natAbs).length ≤ c; omega, Kd.C_of_reads (d := (0 : Int)) (by show ReadsInt w .u32 A (dig z.natAbs).length (dig z.natAbs); rw [hl]; exact h3)⟩
/-- What a call that makes a whole number leaves: it lies in new memory, all else is as it was. -/
def RetI (w w' : World) (e : Ending) (z : Int) : Prop :=
  ∃ s A n c, e = .returned (.agg #[.bool s, .slice A n c]) ∧ cI.M w' w.heap.size (fun _ => True) z [.bool s, .slice A n c] ∧ Below w.heap.size w w'
theorem retI_close {w W w1 : World} {z : Int} {s : Bool} {A : Option Addr} {n c : Nat} (hwW : Below w.heap.size w W) (hM : cI.M w1 W.heap.size (fun _ => True) z [.bool s, .slice A n c]) (hB : Below W.heap.size W w1) {r : Nat} (h0 : w.heap.size ≤ r) (h1 : r < W.heap.size) (u v : Value) :
    RetI w ((w1.setCell ⟨r, 0, none⟩ u).setCell ⟨r, 1, none⟩ v) (.returned (.agg #[.bool s, .slice A n c])) z := by
  have h2 := (made_far hwW hM hB h0 h1 0 u).1
  have h3 := Kd.M_far (p := ⟨r, 1, none⟩) (cI.M_bound h2) (fun k hk => by show k ≠ r; omega) v
  exact ⟨s, A, n, c, rfl, cI.M_lower hwW.size (cI.M_mono (fun _ _ => trivial) h3), ((hwW.trans (hB.mono hwW.size)).setCell h0 u).setCell h0 v⟩
theorem cI_mk {w : World} {base : Nat} {ok : Nat → Prop} {z : Int} {v : Value} {n : Nat} (h : w.ownsRow base 93 1 v n (nums .u32 (dig z.natAbs))) (hok : ∀ k, v.ownBlock = some k → ok k) : cI.M w base ok z [.bool (decide (z < 0)), v] := by
  have hl : (dig z.natAbs).length = n := by have := h.1; simp [nums] at this; exact this
  subst hl
  exact ⟨[.bool _], [v], rfl, rfl, v, rfl, Kd.R_of_own h hok⟩
theorem cI_mkR {w : World} {base : Nat} {ok : Nat → Prop} {z : Int} {v : Value} {xs : List Int} (h : (Kd.int .u32).R 93 w base ok v xs) (hx : xs = dig z.natAbs) {s : Bool} (hs : s = decide (z < 0)) : cI.M w base ok z [.bool s, v] := by
  subst hx
  subst hs
  exact ⟨[.bool _], [v], rfl, rfl, v, rfl, h⟩
theorem cI_nought (w : World) (base : Nat) (ok : Nat → Prop) : cI.M w base ok 0 [.bool false, .slice none 0 0] :=
  ⟨[.bool false], [.slice none 0 0], rfl, rfl, .slice none 0 0, rfl, by show Kd.R _ _ _ _ _ _ (dig 0); rw [dig_zero]; exact Kd.R_nil _ _ _ _ _⟩
theorem intv_sgn (s : Bool) {N : Nat} (h : N ≠ 0) : s = decide (intv s N < 0) := by unfold intv; cases s <;> simp <;> omega
end Go.Proofs.Ytaagioghkicdkaa
