/- A logic of calls: closures, slices made and cut, rows made, frozen. -/
import Derived.Test.YtlmiadjogdfjkaaV6
set_option linter.unusedVariables false
set_option linter.unusedSimpArgs false
namespace Go.Proofs.Ytlmiadjogdfjkaa.V
open Go.RowKit

/-- A function value with what it captured. -/
def T.fn (f : FuncId) (caps : List T) : T := ⟨caps.flatMap (·.ns), 1, false, fun β u v => ∃ cs : List Value, v = .func (.func f) #[] cs.toArray ∧ Reps β u caps cs, fun ⟨cs, e, _⟩ _ => by subst e; exact ⟨⟨rfl, rfl⟩, rfl⟩, fun hs ⟨cs, e, h⟩ => ⟨cs, e, h.mono hs⟩, fun hn ⟨cs, e, h⟩ => ⟨cs, e, h.ext hn⟩⟩
/-- Some value of one cell. -/
def T.any : T := ⟨[], 1, false, fun _ _ v => v.oneCell' = true, fun h _ => by have := (one_sz h).2; exact ⟨⟨by rw [this]; rfl, by rw [this]; simpa using h⟩, by rw [this]; rfl⟩, fun _ h => h, fun _ h => h⟩
theorem cells_any {β : Env} {u : World} : ∀ {cs : List Value}, cs.all Value.oneCell' = true → Cells β u (List.replicate cs.length T.any) cs
  | [], _ => rfl
  | z :: r, h => by
    simp only [List.all_cons, Bool.and_eq_true] at h
    exact ⟨z, r, by show (1 : Nat) ≠ 0; omega, h.1, by rw [(one_sz h.1).2]; rfl, cells_any h.2⟩
theorem els_of {α : Type} {c : Cod α} {β : Env} {u : World} : ∀ {l : List T} {xs : List α} {cs : List Value}, Cells β u l cs → LeL l (xs.map c.X) → Els c xs u cs
  | [], [], _, h, _ => h
  | X :: r, a :: s, cs, ⟨v, rest, h0, h1, e, h2⟩, ⟨k1, k2⟩ => ⟨v, rest, by rw [c.sz0]; exact c.pos, c.any (k1 _ _ _ h1), e, els_of h2 k2⟩
  | [], _ :: _, _, _, k => k.elim
  | _ :: _, [], _, _, k => k.elim
section
variable {P : Program} {ops : Array Oper} {fin : List OpS → List (Nat × T) → List (Nat × Option Ent) → Prop} {r : List Oper} {H : List OpS} {g : List (Nat × T)} {E : List (Nat × Option Ent)} {o : Oper}
variable {t : Option Nat} {ty : TypeId} {ps : String} {af : Array Edge} {gd : Option (Nat × Bool)} {x y : Operand} {X Y : T} {e off m : Nat} {b : Bool} {l l' : List T} {et : TypeId}
variable {α : Type} {c : Cod α} {xs ys : List α}
/-- A closure is made. -/
theorem mf {f : FuncId} {cs : Array Operand} {As : List T} (hA : envs g cs.toList = some As) (hn : J P ops fin r (OpS.p (T.fn f As) :: H) (putg t (T.fn f As) g) E) (hg : GuardIs ops g ⟨t, .makeFunc (.func f) #[] cs, ty, ps, af, gd⟩ true := by exact gd0) : J P ops fin (⟨t, .makeFunc (.func f) #[] cs, ty, ps, af, gd⟩ :: r) H g E :=
  j_val hg (ok_pure fun ρ β u w F hs he hH => by
    refine ⟨.func (.func f) #[] (cs.map ρ), by simp [execOp, Instr.makeFunc], cs.toList.map ρ, by congr 1; apply Array.ext'; simp, envs_reps hA (fun x hx Y hY => he x ?_ Y hY)⟩
    show x ∈ (#[] ++ cs : Array Operand)
    simpa using hx) hn
/-- A closure is called. -/
theorem cf {f : FuncId} {zs : Array Operand} {tys : Array TypeId} {As Bs : List T} (hX : envl g x = some (T.fn f Bs)) (hA : envs g zs.toList = some As) (h : Fn P f (As ++ Bs) [] [] [] X) (hen : Enters P f) (hn : J P ops fin r (OpS.p X :: H) (putg t X g) E)
    (hg : GuardIs ops g ⟨t, .call ⟨.value x, zs, tys⟩, ty, ps, af, gd⟩ true := by exact gd0) : J P ops fin (⟨t, .call ⟨.value x, zs, tys⟩, ty, ps, af, gd⟩ :: r) H g E :=
  j_val hg (fun ρ β u w F hs he hH => by
    obtain ⟨cs, h1, h2⟩ := he x (show x ∈ (#[x] ++ zs : Array Operand) from by simp) _ hX
    have hre := envs_reps (β := β) (u := u) (ρ := ρ) hA (fun y hy Y hY => he y (show y ∈ (#[x] ++ zs : Array Operand) from Array.mem_append_right _ (by simpa using hy)) Y hY)
    have happ : ∀ {a b : List T} {v s : List Value}, Reps β u a v → Reps β u b s → Reps β u (a ++ b) (v ++ s) := fun {a} => by
      induction a with
      | nil => intro b v s h k; cases v with
        | nil => exact k
        | cons _ _ => exact h.elim
      | cons Z q ih => intro b v s h k; cases v with
        | nil => exact h.elim
        | cons z p => exact ⟨h.1, ih h.2 k⟩
    have := h _ β u w F hs (happ hre h2) (Hold.none _ _ _ _)
    unfold Res
    rw [show (execOp ρ ⟨t, .call ⟨.value x, zs, tys⟩, ty, ps, af, gd⟩).run P w = .ok (.enter f (zs.toList.map ρ ++ cs).toArray) w from by
      simp only [execOp, resolve, h1, Deferred.ofValue, Sem.run_bind, Sem.run_pure, Result.andThen_ok, invoke, hen _ w]
      congr 2
      apply Array.ext'; simp]
    exact this) hn
def plE (sz : Nat) : Nat → Nat → List (Nat × Nat)
  | 0, _ => []
  | n + 1, off => (off, sz) :: plE sz n (off + sz)
theorem plE_at {sz : Nat} : ∀ {n i off : Nat} {q : Nat × Nat}, (plE sz n off)[i]? = some q → q = (off + i * sz, sz)
  | 0, _, _, _, h => by simp [plE] at h
  | n + 1, 0, off, q, h => by simp [plE] at h; simp [← h]
  | n + 1, i + 1, off, q, h => by
    have := plE_at (n := n) (i := i) (off := off + sz) (q := q) (by simpa [plE] using h)
    rw [this, Nat.add_mul]
    congr 1
    omega
theorem run_buildSlice {τ : TypeId} {sz bytes n : Nat} {parts : Array (Nat × Operand)} (hT : SlT P et τ sz bytes) (hp : puts g (plE sz n 0) (List.replicate (n * sz) T.any) parts.toList = some l') (hsm : n * sz ≤ 16777216) (hpos : n * sz ≠ 0) {β : Env} {u w : World} {ρ : Operand → Value} (he : ∀ p ∈ parts, ∀ Y, envl g p.2 = some Y → Y.rep β u (ρ p.2)) :
    ∃ cs, (Instr.buildSlice et n (parts.map fun p => (p.1, ρ p.2))).run P w = .ok (.slice (some ⟨w.heap.size, 0, none⟩) n n) (w.alloc (.cells (List.toArray cs) τ (0, 0))) ∧ Cells β u l' cs := by
  obtain ⟨ht, z, hz, hzc, hz1⟩ := hT
  obtain ⟨inf, hi, hzz⟩ := Option.map_eq_some_iff.1 hz
  simp only [Prod.mk.injEq] at hzz
  obtain ⟨q0, q1, q2⟩ := hzz
  have hc0 : ∀ k ∈ ((Array.range (n * sz)).map (z.cells[· % z.cells.size]!)).toList, k.oneCell' = true := fun k hk => by
    simp only [Array.toList_map, List.mem_map] at hk
    obtain ⟨i, _, rfl⟩ := hk
    have hsz : 0 < z.cells.size := by rw [hzc]; exact Nat.pos_of_ne_zero (fun h => hpos (by rw [h, Nat.mul_zero]))
    have hlt : i % z.cells.size < z.cells.size := Nat.mod_lt _ hsz
    rw [getElem!_pos z.cells _ hlt]
    exact List.all_eq_true.1 hz1 _ (by simp)
  have hc := cells_any (β := β) (u := u) (List.all_eq_true.2 hc0)
  rw [show ((Array.range (n * sz)).map (z.cells[· % z.cells.size]!)).toList.length = n * sz by simp] at hc
  obtain ⟨cs, k1, k2⟩ := fill_puts (place := fun i => some (i * sz, sz)) (fun i q h => by rw [plE_at h]; simp) hp (fun p hp => he p (by simpa using hp)) hc
  refine ⟨cs, ?_, k2⟩
  have hsf : (sizeOf τ).run P w = .ok sz w := by simp [sizeOf, typeInfo, hi, q1]
  have hzv : (zeroValue τ).run P w = .ok z w := by simp [zeroValue, typeInfo, hi, q0]
  unfold Instr.buildSlice
  simp only [Sem.run_bind, run_underlying ht, Result.andThen_ok, hsf]
  rw [if_neg (by omega)]
  simp only [Sem.run_bind, Sem.run_pure, Result.andThen_ok, if_neg hpos, hzv]
  rw [show (parts.map fun p => (p.1, ρ p.2)).toList = parts.toList.map fun p => (p.1, ρ p.2) by simp]
  rw [Array.toArray_toList] at k1
  rw [k1]
  simp [newRow]
/-- A slice of things that are told, for good. -/
theorem bs {τ : TypeId} {bytes n : Nat} {parts : Array (Nat × Operand)} (hT : SlT P et τ c.sz bytes) (hp : puts g (plE c.sz n 0) (List.replicate (n * c.sz) T.any) parts.toList = some l') (hl : LeL l' (xs.map c.X)) (hn : J P ops fin r (OpS.p (T.l c xs) :: H) (putg t (T.l c xs) g) E) (hm : (Nat.beq xs.length n && Nat.ble (n * c.sz) 16777216 && !Nat.beq (n * c.sz) 0) = true := by rfl) (hg : GuardIs ops g ⟨t, .buildSlice et n parts, ty, ps, af, gd⟩ true := by exact gd0) : J P ops fin (⟨t, .buildSlice et n parts, ty, ps, af, gd⟩ :: r) H g E := by
  simp only [Bool.and_eq_true, Bool.not_eq_true'] at hm
  obtain ⟨⟨h1, h2⟩, h3⟩ := hm
  have h1 := Nat.eq_of_beq_eq_true h1
  have h2 := Nat.le_of_ble_eq_true h2
  have h3 : n * c.sz ≠ 0 := fun h => by rw [h] at h3; cases h3
  exact j_val hg (fun ρ β u w F hs he hH => by
    obtain ⟨cs, k1, k2⟩ := run_buildSlice (w := w) (ρ := ρ) hT hp h2 h3 (fun p hp Y hY => he p.2 (by simp only [Op.operands]; exact by simpa using ⟨p.1, by simpa using hp⟩) Y hY)
    have hE := els_of k2 hl
    unfold Res
    simp only [execOp, Sem.run_bind, k1, Result.andThen_ok, Sem.run_pure]
    refine after_solid hs (fun u' hu hc => ⟨some ⟨w.heap.size, 0, none⟩, n, n, rfl, h1, Nat.le_refl _, by have : n ≤ n * c.sz := Nat.le_mul_of_pos_right _ (Nat.pos_of_ne_zero c.pos); omega, fun _ => ⟨_, rfl, cs, hE.mono hu, fun j y hy => ?_⟩⟩)
    rw [add_none, Nat.zero_add]
    exact hc j y (by simpa using hy)) hn
/-- The same, of one's own. -/
theorem bso {τ : TypeId} {bytes n : Nat} {parts : Array (Nat × Operand)} (e : Nat) (hT : SlT P et τ c.sz bytes) (hp : puts g (plE c.sz n 0) (List.replicate (n * c.sz) T.any) parts.toList = some l') (hl : LeL l' (xs.map c.X)) (hn : J P ops fin r (⟨[], [], [(e, Ent.row c τ xs)], [e], T.o e⟩ :: H) (putg t (T.o e) g) ((e, some (Ent.row c τ xs)) :: E)) (hm : (Nat.beq xs.length n && Nat.ble (n * c.sz) 16777216 && !Nat.beq (n * c.sz) 0) = true := by rfl) (hg : GuardIs ops g ⟨t, .buildSlice et n parts, ty, ps, af, gd⟩ true := by exact gd0) : J P ops fin (⟨t, .buildSlice et n parts, ty, ps, af, gd⟩ :: r) H g E := by
  simp only [Bool.and_eq_true, Bool.not_eq_true'] at hm
  obtain ⟨⟨h1, h2⟩, h3⟩ := hm
  have h1 := Nat.eq_of_beq_eq_true h1
  have h2 := Nat.le_of_ble_eq_true h2
  have h3 : n * c.sz ≠ 0 := fun h => by rw [h] at h3; cases h3
  exact j_new hg (fun ρ β u w F hs he hH => by
    obtain ⟨cs, k1, k2⟩ := run_buildSlice (w := w) (ρ := ρ) hT hp h2 h3 (fun p hp Y hY => he p.2 (by simp only [Op.operands]; exact by simpa using ⟨p.1, by simpa using hp⟩) Y hY)
    have hE := els_of k2 hl
    have hn16 : n ≤ n * c.sz := Nat.le_mul_of_pos_right _ (Nat.pos_of_ne_zero c.pos)
    unfold Res
    simp only [execOp, Sem.run_bind, k1, Result.andThen_ok, Sem.run_pure]
    refine after_newrow hs (World.grownBy_alloc _ _ _) ⟨cs, ?_, hE⟩ (.inr rfl) ⟨_, _, _, rfl⟩
    have := World.ownsRow_lit (w := w) (base := 0) (e := τ) (size := c.sz) cs.toArray n (Nat.zero_le _) (by unfold maxLen; omega) (by have := hE.len; simp [this, h1])
    rw [h1]
    simpa using this) hn
theorem replicate_made {z : Value} {sz : Nat} (h : z.cells.size = sz) (h0 : sz ≠ 0) (n : Nat) : (madeCells z.cells (n * sz)).toList = (List.replicate n z.cells.toList).flatten := by
  apply List.ext_getElem?
  intro j
  by_cases hj : j < n * sz
  · have e1 : (madeCells z.cells (n * sz)).toList[j]? = some (z.cells[j % z.cells.size]!) := by
      simp only [madeCells, Array.toList_map, List.getElem?_map, Array.toList_range]
      rw [List.getElem?_range hj]; rfl
    have hlt : j % sz < z.cells.size := by rw [h]; exact Nat.mod_lt _ (Nat.pos_of_ne_zero h0)
    rw [e1, h, getElem!_pos z.cells _ hlt]
    have key : ∀ (n j : Nat), j < n * sz → (List.replicate n z.cells.toList).flatten[j]? = z.cells.toList[j % sz]? := by
      intro n
      induction n with
      | zero => intro j hj; omega
      | succ n ih =>
        intro j hj
        rw [List.replicate_succ, List.flatten_cons, List.getElem?_append]
        have hl : z.cells.toList.length = sz := by simpa using h
        rw [hl]
        split
        · rename_i hlt; rw [Nat.mod_eq_of_lt hlt]
        · rename_i hlt
          rw [ih (j - sz) (by rw [Nat.add_mul] at hj; omega)]
          exact congrArg (z.cells.toList[·]?) (Nat.mod_eq_sub_mod (Nat.le_of_not_lt hlt)).symm
    rw [key n j hj]
    simp [hlt]
  · rw [List.getElem?_eq_none (by simp [madeCells]; omega), List.getElem?_eq_none (by simp [h]; omega)]
/-- make([]T, n). -/
theorem mkz {τ : TypeId} {bytes n : Nat} {z : Value} (e : Nat) {k : Int} (hT : SlT P et τ c.sz bytes) (hX : envl g x = some (T.c (.int .i64 k))) (hk : k = (n : Int) ∧ n * bytes ≤ 281474976710656) (hz : ∀ u, (P.info? τ).bind (·.zero) = some z ∧ (c.X c.dflt).rep B0 u z) (hb : 0 < bytes) (hn : J P ops fin r (⟨[], [], [(e, Ent.row c τ (List.replicate n c.dflt))], [e], T.o e⟩ :: H) (putg t (T.o e) g) ((e, some (Ent.row c τ (List.replicate n c.dflt))) :: E)) (hg : GuardIs ops g ⟨t, .makeSlice et x x, ty, ps, af, gd⟩ true := by exact gd0) : J P ops fin (⟨t, .makeSlice et x x, ty, ps, af, gd⟩ :: r) H g E :=
  j_new hg (fun ρ β u w F hs he hH => by
    have hx : ρ x = .int .i64 (n : Int) := by rw [← hk.1]; exact he x (by simp [Op.operands]) _ hX
    obtain ⟨ht, inf, z', hi, hz0, hz1, hz2, hzc⟩ := hT.info
    obtain ⟨hzz, hzr⟩ := hz u
    rw [hi, Option.bind_some, hz0] at hzz
    cases hzz
    have hm : n ≤ 281474976710656 := Nat.le_trans (Nat.le_mul_of_pos_right _ hb) hk.2
    have hr := run_make (P := P) w et τ inf z ht hi hz0 .i64 .i64 (n : Int) (n : Int) (by omega) (by omega)
      (by
        have h3 : ((inf.bytes * n : Nat) : Int) ≤ 281474976710656 := by rw [hz2, Nat.mul_comm]; omega
        rwa [Int.natCast_mul] at h3) (by omega)
    simp only [Int.toNat_natCast] at hr
    rw [hz1] at hr
    unfold Res
    simp only [execOp, hx, Sem.run_bind, hr, Result.andThen_ok, Sem.run_pure]
    refine after_newrow hs (World.grownBy_alloc _ _ _) ⟨(List.replicate n z.cells.toList).flatten, ?_, els_rep hzr n⟩ (.inr rfl) ⟨_, _, _, rfl⟩
    have := World.ownsRow_lit (w := w) (base := 0) (e := τ) (size := c.sz) (madeCells z.cells (n * c.sz)) n (Nat.zero_le _) (by unfold maxLen; omega) (size_madeCells _ _)
    rw [List.length_replicate, ← replicate_made hzc c.pos n]
    exact this) hn
/-- make([]T, 0, n). -/
theorem mk0 {τ : TypeId} {bytes n : Nat} (e : Nat) {k : Int} (hT : SlT P et τ c.sz bytes) (hX : envl g x = some (T.c (.int .i64 0))) (hY : envl g y = some (T.c (.int .i64 k))) (hk : k = (n : Int) ∧ n * bytes ≤ 281474976710656) (hb : 0 < bytes) (hn : J P ops fin r (⟨[], [], [(e, Ent.row c τ [])], [e], T.o e⟩ :: H) (putg t (T.o e) g) ((e, some (Ent.row c τ [])) :: E)) (hg : GuardIs ops g ⟨t, .makeSlice et x y, ty, ps, af, gd⟩ true := by exact gd0) : J P ops fin (⟨t, .makeSlice et x y, ty, ps, af, gd⟩ :: r) H g E :=
  j_new hg (fun ρ β u w F hs he hH => by
    have hx : ρ x = .int .i64 0 := he x (by simp [Op.operands]) _ hX
    have hy : ρ y = .int .i64 (n : Int) := by rw [← hk.1]; exact he y (by simp [Op.operands]) _ hY
    obtain ⟨ht, inf, z', hi, hz0, hz1, hz2, hzc⟩ := hT.info
    have hm : n ≤ 281474976710656 := Nat.le_trans (Nat.le_mul_of_pos_right _ hb) hk.2
    have hr := run_make (P := P) w et τ inf z' ht hi hz0 .i64 .i64 0 (n : Int) (by omega) (by omega)
      (by
        have h3 : ((inf.bytes * n : Nat) : Int) ≤ 281474976710656 := by rw [hz2, Nat.mul_comm]; omega
        rwa [Int.natCast_mul] at h3) (by omega)
    simp only [Int.toNat_natCast, Int.toNat_zero] at hr
    rw [hz1] at hr
    unfold Res
    simp only [execOp, hx, hy, Sem.run_bind, hr, Result.andThen_ok, Sem.run_pure]
    refine after_newrow hs (World.grownBy_alloc _ _ _) ⟨[], ?_, rfl⟩ (.inr rfl) ⟨_, _, _, rfl⟩
    exact World.ownsRow_made w _ n (Nat.zero_le _) (by unfold maxLen; omega) (size_madeCells _ _)) hn
end
section
variable {P : Program} {Q : Exit → Act → World → Prop} {n : Nat} {ctx : Ctx} {g g' : List (Nat × T)} {E E' : List (Nat × Option Ent)} {x : Code} {α : Type} {c : Cod α} {l : List α} {τ : TypeId}
/-- A row is written to no more. -/
theorem tri_fz (e : Nat) (hE : lkE E e = some (Ent.row c τ l)) (h : Tri P x Q ctx n g ((e, some (Ent.frz c l)) :: E)) : Tri P x Q ctx n g E := fun a w hS => h a w (by
  obtain ⟨β, u, F, h1, h2, h3, h4, h5, h6, h7⟩ := hS
  obtain ⟨xs, k1, k2, k3⟩ := h4.hold e _ hE
  have hs := h5.sub
  have hd : ∀ k, F e k → Dead u k := fun k hk => (h4.dead e _ k hE hk).1
  have hup := solid_up hs hd
  have hlk : ∀ f, lkE ((e, some (Ent.frz c l)) :: E) f = if e = f then some (Ent.frz c l) else lkE E f := fun f => by
    unfold lkE
    rw [lk_cons]
    by_cases h : e = f
    · rw [if_pos h, if_pos h]; rfl
    · rw [if_neg h, if_neg h]
  have hdd : ∀ f X k, f ≠ e → lkE E f = some X → F f k → Dead (solid u w (F e)) k := fun f X k hne hX hk => solid_dead hs (fun hk' => h4.apart f e X _ k hX hE hne hk hk') (h4.dead f X k hX hk).1
  refine ⟨β, solid u w (F e), fun f k => F f k ∧ f ≠ e, h1, h2, fun t X hX => ?_, ⟨fun f X hX => ?_, fun f X k hX hk => ?_, fun f f' X Y k hX hY hne hk hk' => ?_⟩, ⟨h5.os, h5.tape, h5.output, h5.size, h5.block, h5.old.trans hup, solid_sub hs, fun k hk hc hdk => ?_⟩, fun f X k hX hk => ?_, h7⟩
  · obtain ⟨v, q1, q2⟩ := h3 t X hX
    exact ⟨v, q1, X.mono hup q2⟩
  · rw [hlk] at hX
    by_cases hf : e = f
    · subst hf
      rw [if_pos rfl] at hX
      cases hX
      refine ⟨fun k hk => hk.2 rfl, ?_⟩
      rcases k1.2 with ⟨ev, hn⟩ | ⟨q, cap, cur, ev, hg0, hh, hc1, hc2, hc3, hc4⟩
      · rw [ev]
        exact ⟨none, 0, 0, rfl, hn, Nat.le_refl _, by omega, fun h => absurd h (by omega)⟩
      · refine ⟨_, _, _, ev, rfl, hc1, by unfold maxLen at hc2; omega, fun hp => ⟨_, rfl, xs, k2.mono hup, fun j y hy => ?_⟩⟩
        have hq : F e q := (k3 q).2 (by rw [ev]; rfl)
        rw [add_none, Nat.zero_add, solid_in hs hq, cell_of_row w q j cur τ (0, 0) hh]
        rw [← hc4] at hy
        rw [List.getElem?_take] at hy
        split at hy
        · simpa using hy
        · cases hy
    · rw [if_neg hf] at hX
      exact X.mono hup (X.loc (w := w) (fun k _ => rfl) (by
        have := h4.hold f X hX
        rwa [show (fun k => F f k ∧ f ≠ e) = F f from funext fun k => by simp [Ne.symm hf]]))
  · rw [hlk] at hX
    rw [if_neg (fun h => hk.2 h.symm)] at hX
    exact ⟨hdd f X k hk.2 hX hk.1, (h4.dead f X k hX hk.1).2⟩
  · rw [hlk, if_neg (fun h => hk.2 h.symm)] at hX
    rw [hlk, if_neg (fun h => hk'.2 h.symm)] at hY
    exact h4.apart f f' X Y k hX hY hne hk.1 hk'.1
  · refine solid_dead hs (fun hk' => ?_) (h5.dead k hk hc hdk)
    rcases h6 e _ k hE hk' with h | h
    · exact hc h
    · omega
  · rw [hlk, if_neg (fun h => hk.2 h.symm)] at hX
    exact h6 f X k hX hk.1)
/-- The slice of a row that is written to no more. -/
theorem tri_rd (t e : Nat) (ht : lk g t = some (T.o e)) (hE : lkE E e = some (Ent.frz c l)) (h : Tri P x Q ctx n ((t, T.l c l) :: g) E) : Tri P x Q ctx n g E := fun a w hS => h a w (by
  obtain ⟨β, u, F, h1, h2, h3, h4, h5, h6, h7⟩ := hS
  refine ⟨β, u, F, h1, h2, fun t' X hX => ?_, h4, h5, h6, h7⟩
  rw [lk_cons] at hX
  split at hX
  · rename_i e1
    subst e1
    cases hX
    obtain ⟨v, q1, q2, q3⟩ := h3 t _ ht
    exact ⟨v, q1, (T.l c l).ext (fun _ h => by cases h) (by rw [q2]; exact (h4.hold e _ hE).2)⟩
  · exact h3 t' X hX)
/-- A nil slice is a row. -/
theorem tri_nil (t e : Nat) (τ : TypeId) (c : Cod α) (ht : lk g t = some (T.c (.slice none 0 0))) (hf : ((nsOf g ++ nsE E ++ ctx.I).contains e) = false) (h : Tri P x Q ctx n ((t, T.o e) :: g) ((e, some (Ent.row c τ [])) :: E)) : Tri P x Q ctx n g E := fun a w hS => h a w (by
  obtain ⟨β, u, F, h1, h2, h3, h4, h5, h6, h7⟩ := hS
  have hfr : e ∉ nsOf g ∧ e ∉ nsE E ∧ e ∉ ctx.I := by
    simp only [List.contains_eq_mem, decide_eq_false_iff_not, List.mem_append, not_or] at hf
    exact ⟨hf.1.1, hf.1.2, hf.2⟩
  have hb : ∀ f, f ≠ e → setE β e (.slice none 0 0) f = β f := fun f hne => setE_ne _ _ hne
  have hlk : ∀ f, lkE ((e, some (Ent.row c τ ([] : List α))) :: E) f = if e = f then some (Ent.row c τ []) else lkE E f := fun f => by
    unfold lkE
    rw [lk_cons]
    by_cases h : e = f
    · rw [if_pos h, if_pos h]; rfl
    · rw [if_neg h, if_neg h]
  have hnone : lkE E e = none := by
    cases hx : lkE E e with
    | none => rfl
    | some X => exact absurd (lkE_base hx).1 hfr.2.1
  refine ⟨setE β e (.slice none 0 0), u, fun f k => F f k ∧ f ≠ e, h1, h2, fun t' X hX => ?_, ⟨fun f X hX => ?_, fun f X k hX hk => ?_, fun f f' X Y k hX hY hne hk hk' => ?_⟩, h5, fun f X k hX hk => ?_, fun f hf => (hb f (fun h => hfr.2.2 (h ▸ hf))).trans (h7 f hf)⟩
  · rw [lk_cons] at hX
    split at hX
    · rename_i e1
      subst e1
      cases hX
      obtain ⟨v, q1, q2⟩ := h3 t _ ht
      exact ⟨v, q1, by rw [setE_same]; exact q2, _, _, _, q2⟩
    · obtain ⟨v, q1, q2⟩ := h3 t' X hX
      exact ⟨v, q1, X.ext (fun q hq => hb q (fun h => hfr.1 (h ▸ lk_base hX q hq))) q2⟩
  · rw [hlk] at hX
    by_cases hf : e = f
    · subst hf
      rw [if_pos rfl] at hX
      cases hX
      rw [setE_same]
      exact ⟨[], World.ownsRow_nil _ _ _ _, rfl, fun k => ⟨fun h => absurd rfl h.2, fun h => by cases h⟩⟩
    · rw [if_neg hf] at hX
      rw [hb f (Ne.symm hf), show (fun k => F f k ∧ f ≠ e) = F f from funext fun k => by simp [Ne.symm hf]]
      exact X.ext (fun q hq => hb q (fun h => hfr.2.1 (h ▸ (lkE_base hX).2 q hq))) (h4.hold f X hX)
  · rw [hlk, if_neg (fun h => hk.2 h.symm)] at hX
    exact h4.dead f X k hX hk.1
  · rw [hlk, if_neg (fun h => hk.2 h.symm)] at hX
    rw [hlk, if_neg (fun h => hk'.2 h.symm)] at hY
    exact h4.apart f f' X Y k hX hY hne hk.1 hk'.1
  · rw [hlk, if_neg (fun h => hk.2 h.symm)] at hX
    exact h6 f X k hX hk.1)
end
end Go.Proofs.Ytlmiadjogdfjkaa.V
