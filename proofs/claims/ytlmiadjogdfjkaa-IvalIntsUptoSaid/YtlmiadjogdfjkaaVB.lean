/- A logic of calls: views into a row of one's own, calls that give or take memory. -/
import Derived.Test.YtlmiadjogdfjkaaVA
set_option linter.unusedVariables false
set_option linter.unusedSimpArgs false
namespace Go.Proofs.Ytlmiadjogdfjkaa.V
open Go.RowKit Mt Nml

/-- A part of a row of one's own: from off on, n long; of one cell each. -/
def T.v (e off n : Nat) : T := ⟨[e], 1, false, fun β _ v => ∃ b m k, β e = .slice (some ⟨b, 0, none⟩) m k ∧ off + n ≤ k ∧ v = .slice (some ⟨b, off, none⟩) n (k - off), fun ⟨_, _, _, _, _, e⟩ _ => by subst e; exact ⟨⟨rfl, rfl⟩, rfl⟩, fun _ h => h,
  fun hn ⟨b, m, k, h1, h2, h3⟩ => ⟨b, m, k, by rw [hn _ List.mem_cons_self]; exact h1, h2, h3⟩⟩
section
variable {P : Program} {ops : Array Oper} {fin : List OpS → List (Nat × T) → List (Nat × Option Ent) → Prop} {r : List Oper} {H : List OpS} {g : List (Nat × T)} {E : List (Nat × Option Ent)} {o : Oper}
variable {t : Option Nat} {ty : TypeId} {ps : String} {af : Array Edge} {gd : Option (Nat × Bool)} {x y : Operand} {X Y : T} {e off m n : Nat} {b : Bool} {et : TypeId}
variable {α : Type} {c : Cod α} {xs ys : List α}
theorem lnv {τ : TypeId} {sz bytes : Nat} (hT : SlT P et τ sz bytes) (hX : envl g x = some (T.v e off n)) (hn : J P ops fin r (OpS.p (T.c (.int .i64 (n : Int))) :: H) (putg t (T.c (.int .i64 (n : Int))) g) E) (hg : GuardIs ops g ⟨t, .call ⟨.builtin .len, #[x], #[et]⟩, ty, ps, af, gd⟩ true := by exact gd0) : J P ops fin (⟨t, .call ⟨.builtin .len, #[x], #[et]⟩, ty, ps, af, gd⟩ :: r) H g E :=
  j_val hg (ok_pure fun ρ β u w F hs he hH => by
    obtain ⟨q, m, k, h1, h2, h3⟩ := he x (by simp [Op.operands, Call.operands]) _ hX
    exact ⟨_, run_len hT h3, rfl⟩) hn
theorem scv {lo hi : Nat} {zl' zh : Operand} {a b' : Int} {kk kk' : IntKind} {τ : TypeId} {bytes : Nat} (hX : envl g x = some (T.v e off n)) (hT : SlT P et τ 1 bytes) (hlo : envl g zl' = some (T.c (.int kk a))) (hhi : envl g zh = some (T.c (.int kk' b'))) (hh : a = (lo : Int) ∧ b' = (hi : Int) ∧ lo < hi ∧ hi ≤ n) (hn : J P ops fin r (OpS.p (T.v e (off + lo) (hi - lo)) :: H) (putg t (T.v e (off + lo) (hi - lo)) g) E) (hg : GuardIs ops g ⟨t, .slice et x (some zl') (some zh) none, ty, ps, af, gd⟩ true := by exact gd0) : J P ops fin (⟨t, .slice et x (some zl') (some zh) none, ty, ps, af, gd⟩ :: r) H g E :=
  j_val hg (ok_pure fun ρ β u w F hs he hH => by
    obtain ⟨rfl, rfl, h1, h2⟩ := hh
    obtain ⟨q, m, k, k1, k2, ev⟩ := he x (by simp [Op.operands]) _ hX
    have hy : ρ zl' = _ := he zl' (by simp [Op.operands]) _ hlo
    have hz : ρ zh = _ := he zh (by simp [Op.operands]) _ hhi
    obtain ⟨B, q1, q2⟩ := run_cut (kk := kk) (kk' := kk') (A := some ⟨q, off, none⟩) (n := n) (k := k - off) hT (Nat.le_of_lt h1) (by omega) w
    refine ⟨.slice B (hi - lo) (k - off - lo), by simp only [execOp, ev, hy, hz, Option.map_some, Option.map_none, Sem.run_bind, q1, Result.andThen_ok, Sem.run_pure], q, m, k, k1, by omega, ?_⟩
    rw [q2 (by omega), Nat.sub_sub]
    simp [Addr.add]) hn
theorem shv {hi : Nat} {zh : Operand} {b' : Int} {kk' : IntKind} {τ : TypeId} {bytes : Nat} (hX : envl g x = some (T.v e off n)) (hT : SlT P et τ 1 bytes) (hhi : envl g zh = some (T.c (.int kk' b'))) (hh : b' = (hi : Int) ∧ hi ≤ n) (hn : J P ops fin r (OpS.p (T.v e off hi) :: H) (putg t (T.v e off hi) g) E) (hg : GuardIs ops g ⟨t, .slice et x none (some zh) none, ty, ps, af, gd⟩ true := by exact gd0) : J P ops fin (⟨t, .slice et x none (some zh) none, ty, ps, af, gd⟩ :: r) H g E :=
  j_val hg (ok_pure fun ρ β u w F hs he hH => by
    obtain ⟨rfl, h2⟩ := hh
    obtain ⟨q, m, k, k1, k2, ev⟩ := he x (by simp [Op.operands]) _ hX
    have hz : ρ zh = _ := he zh (by simp [Op.operands]) _ hhi
    obtain ⟨ht, inf, z, hi', hz0, hz1, hz2, hzc⟩ := hT.info
    have a2 : (0 : Int) ≤ hi ∧ (hi : Int) ≤ ((k - off : Nat) : Int) := by omega
    have a3 : hi ≤ k - off := by omega
    refine ⟨.slice (some ⟨q, off, none⟩) hi (k - off), ?_, q, m, k, k1, by omega, rfl⟩
    simp [execOp, ev, hz, Instr.sliceAt, Instr.slice, run_underlying ht, Instr.sliceBounds, Instr.sliceBound, asIntOf, a2, a3, sizeOf, typeInfo, hi', Addr.add]) hn
theorem ixv {τ : TypeId} {bytes i : Nat} {kk : IntKind} {z : Int} (hX : envl g x = some (T.v e off n)) (hY : envl g y = some (T.c (.int kk z))) (hT : SlT P et τ 1 bytes) (hi : z = (i : Int) ∧ i < n) (hn : J P ops fin r (OpS.p (T.q e (off + i)) :: H) (putg t (T.q e (off + i)) g) E) (hg : GuardIs ops g ⟨t, .indexAddr et x y, ty, ps, af, gd⟩ true := by exact gd0) : J P ops fin (⟨t, .indexAddr et x y, ty, ps, af, gd⟩ :: r) H g E :=
  j_val hg (ok_pure fun ρ β u w F hs he hH => by
    obtain ⟨q, m, k, k1, k2, ev⟩ := he x (by simp [Op.operands]) _ hX
    have hy : ρ y = .int kk (i : Int) := by rw [← hi.1]; exact he y (by simp [Op.operands]) _ hY
    exact ⟨_, run_index hT ev hy hi.2, q, m, k, k1, by simp [Addr.add]⟩) hn
/-- x[:hi] of a row of one's own. -/
theorem sho {hi : Nat} {zh : Operand} {b' : Int} {kk' : IntKind} {τ : TypeId} {bytes : Nat} (hX : envl g x = some (T.o e)) (hE : lkE E e = some (Ent.row c τ xs)) (hT : SlT P et τ 1 bytes) (hhi : envl g zh = some (T.c (.int kk' b'))) (hh : b' = (hi : Int) ∧ hi ≤ xs.length ∧ 0 < xs.length) (hn : J P ops fin r (⟨[e], [], [], [], T.v e 0 hi⟩ :: H) (putg t (T.v e 0 hi) g) E) (hg : GuardIs ops g ⟨t, .slice et x none (some zh) none, ty, ps, af, gd⟩ true := by exact gd0) : J P ops fin (⟨t, .slice et x none (some zh) none, ty, ps, af, gd⟩ :: r) H g E :=
  j_use hE hg (fun ρ β u w F hs he hH => by
    obtain ⟨rfl, h2, h0⟩ := hh
    obtain ⟨k1, _⟩ := he x (by simp [Op.operands]) _ hX
    have hz : ρ zh = _ := he zh (by simp [Op.operands]) _ hhi
    obtain ⟨zs, o1, o2, o3⟩ := hH.hold e _ lk1_same
    obtain ⟨ht, inf, z, hi', hz0, hz1, hz2, hzc⟩ := hT.info
    rcases o1.2 with ⟨_, hn⟩ | ⟨q, k, cur, ev, _, _, hc, _⟩
    · omega
    · have a2 : (0 : Int) ≤ hi ∧ (hi : Int) ≤ ((k : Nat) : Int) := by omega
      have a3 : hi ≤ k := by omega
      have hx : ρ x = .slice (some ⟨q, 0, none⟩) xs.length k := by rw [k1, ev]
      unfold Res
      rw [show (execOp ρ ⟨t, .slice et x none (some zh) none, ty, ps, af, gd⟩).run P w = .ok (.value (.slice (some ⟨q, 0, none⟩) hi k)) w from by
        simp [execOp, hx, hz, Instr.sliceAt, Instr.slice, run_underlying ht, Instr.sliceBounds, Instr.sliceBound, asIntOf, a2, a3, sizeOf, typeInfo, hi', Addr.add]]
      exact after_pure hs ⟨q, _, k, ev, by omega, by simp⟩) hn
/-- append to the head of a row of one's own. -/
theorem apv {τ : TypeId} {bytes : Nat} (e' : Nat) [hl : IsL Y c ys] (hX : envl g x = some (T.v e 0 n)) (hE : lkE E e = some (Ent.row c τ xs)) (hY : envl g y = some Y) (hT : SlT P et τ c.sz bytes) (hb : n ≤ xs.length ∧ (n + ys.length) * bytes ≤ 140737488355328) (h0 : 0 < bytes)
    (hn : J P ops fin r (⟨[], [e], [(e', Ent.row c τ (xs.take n ++ ys))], [e'], T.o e'⟩ :: H) (putg t (T.o e') g) ((e', some (Ent.row c τ (xs.take n ++ ys))) :: (e, none) :: E)) (hne : Nat.beq e' e = false := by rfl) (hg : GuardIs ops g ⟨t, .call ⟨.builtin .append, #[x, y], #[et, et]⟩, ty, ps, af, gd⟩ true := by exact gd0) : J P ops fin (⟨t, .call ⟨.builtin .append, #[x, y], #[et, et]⟩, ty, ps, af, gd⟩ :: r) H g E := by
  have hne' : e' ≠ e := fun h => by subst h; simp at hne
  refine ⟨⟨[], [e], [(e', Ent.row c τ (xs.take n ++ ys))], [e'], T.o e'⟩, (e', some (Ent.row c τ (xs.take n ++ ys))) :: (e, none) :: E, .inl ⟨hg, fun f he => ⟨Ent.row c τ xs, by rw [show f = e from by simpa using he]; exact hE⟩, ?_⟩, fun f => ?_, hn⟩
  · have : (fun f => if f ∈ (OpS.mk [] [e] [(e', Ent.row c τ (xs.take n ++ ys))] [e'] (T.o e')).uses ++ (OpS.mk [] [e] [(e', Ent.row c τ (xs.take n ++ ys))] [e'] (T.o e')).cons then lkE E f else none) = lk [(e, Ent.row c τ xs)] := funext fun f => by
      rw [lk_cons]
      by_cases h : e = f
      · subst h; rw [if_pos (by simp), if_pos rfl, hE]
      · rw [if_neg (by simp; exact fun h' => h h'.symm), if_neg h]; rfl
    rw [this]
    intro ρ β u w F hs he hH
    obtain ⟨q, m, k, h1, h2, h3⟩ := he x (by simp [Op.operands, Call.operands]) _ hX
    have hy := (T.l c ys).ext (β' := B0) (fun _ h => by cases h) (hl.le _ _ _ (he y (by simp [Op.operands, Call.operands]) _ hY))
    obtain ⟨zs, k1, k2, k3⟩ := hH.hold e _ lk1_same
    have hlen : (xs.take n).length = n := by rw [List.length_take]; omega
    have k1' : w.ownsRow 0 τ c.sz (.slice (some ⟨q, 0, none⟩) n k) (xs.take n).length (zs.take (n * c.sz)) := by
      rw [hlen]
      have hz := k1.1
      refine ⟨by rw [List.length_take, hz, Nat.min_eq_left (Nat.mul_le_mul_right _ hb.1)], .inr ?_⟩
      rcases k1.2 with ⟨ev, _⟩ | ⟨q', cap, cur, ev, o1, o2, o3, o4, o5, o6⟩
      · rw [h1] at ev; cases ev
      · rw [h1] at ev; cases ev
        exact ⟨q, k, cur, rfl, o1, o2, by omega, o4, o5, by rw [← o6, List.take_take, Nat.min_eq_left (Nat.mul_le_mul_right _ hb.1)]⟩
    have k2' : Els c (xs.take n) u (zs.take (n * c.sz)) := Els.take n k2 hb.1
    obtain ⟨v', w', hr, ho, hgw, hv, hsl⟩ := run_append (ty := ty) hT k1' k2' hy hs (by rw [hlen]; exact hb.2) h0
    have hob : (Value.slice (some ⟨q, 0, none⟩) n k).ownBlock = (β e).ownBlock := by rw [h1]; rfl
    rw [show (Value.slice (some ⟨q, 0, none⟩) n k) = ρ x from by rw [h3]; simp] at hr
    rw [hob] at hgw hv
    unfold Res
    simp only [execOp, resolve, invoke, builtin, Sem.run_bind, Sem.run_pure, Result.andThen_ok, List.map_toArray, List.map_cons, List.map_nil, hr]
    exact after_row hH hs hgw ho hv (β' := setE β e' v') (fun f hf => setE_ne _ _ (by simpa using hf)) (setE_same _ _ _) ⟨(setE_same _ _ _).symm, hsl⟩
  · unfold lkE OpS.upd
    rw [lk_cons, lk_cons, lk_cons]
    by_cases h : e' = f
    · rw [if_pos h, if_pos h]; rfl
    · rw [if_neg h, if_neg h]
      show _ = if [e].contains f then none else _
      by_cases h2 : e = f
      · subst h2; simp
      · rw [if_neg h2, if_neg (by simpa using fun h3 => h2 h3.symm)]
/-- A call that makes memory. -/
theorem can {f : FuncId} {zs : Array Operand} {tys : Array TypeId} {As Bs : List T} {Z : Ent} (hA : envs g zs.toList = some As)
    (hl : LeL As Bs := by repeat (first | exact trivial | refine ⟨?_, ?_⟩ | exact T.le.refl _ | exact IsZ.le | exact IsL2.le | exact IsL.le | exact q_le _ _ | exact l_L (by assumption) (by assumption) (by assumption) | assumption))
    (h : Fn P f Bs [] [(e, Z)] [e] X) (hn : J P ops fin r (⟨[], [], [(e, Z)], [e], X⟩ :: H) (putg t X g) ((e, some Z) :: E)) (hen : Enters P f := by intro a w; kernel_rfl)
    (hg : GuardIs ops g ⟨t, .call ⟨.value (.func f), zs, tys⟩, ty, ps, af, gd⟩ true := by exact gd0) : J P ops fin (⟨t, .call ⟨.value (.func f), zs, tys⟩, ty, ps, af, gd⟩ :: r) H g E :=
  j_new hg (fun ρ β u w F hs he hH => by
    have hf : ρ (.func f) = .func (.func f) #[] #[] := he (.func f) (show Operand.func f ∈ (#[Operand.func f] ++ zs : Array Operand) from by simp) _ rfl
    have hre := envs_reps (β := β) (u := u) (ρ := ρ) hA (fun x hx Y hY => he x (show x ∈ (#[Operand.func f] ++ zs : Array Operand) from Array.mem_append_right _ (by simpa using hx)) Y hY)
    have := h _ β u w F hs (hre.le hl) (Hold.none _ _ _ _)
    unfold Res
    rw [show (execOp ρ ⟨t, .call ⟨.value (.func f), zs, tys⟩, ty, ps, af, gd⟩).run P w = .ok (.enter f (zs.toList.map ρ).toArray) w from by
      simp only [execOp, resolve, hf, Deferred.ofValue, Sem.run_bind, Sem.run_pure, Result.andThen_ok, invoke, hen _ w]
      congr 2
      apply Array.ext'; simp]
    exact this) hn
/-- A call that writes to memory. -/
theorem cas {f : FuncId} {zs : Array Operand} {tys : Array TypeId} {As Bs : List T} {Z Z' : Ent} (hA : envs g zs.toList = some As)
    (hl : LeL As Bs := by repeat (first | exact trivial | refine ⟨?_, ?_⟩ | exact T.le.refl _ | exact IsZ.le | exact IsL2.le | exact IsL.le | exact q_le _ _ | exact l_L (by assumption) (by assumption) (by assumption) | assumption))
    (hE : lkE E e = some Z) (h : Fn P f Bs [(e, Z)] [(e, Z')] [] X) (hn : J P ops fin r (⟨[], [e], [(e, Z')], [], X⟩ :: H) (putg t X g) ((e, some Z') :: E)) (hen : Enters P f := by intro a w; kernel_rfl)
    (hg : GuardIs ops g ⟨t, .call ⟨.value (.func f), zs, tys⟩, ty, ps, af, gd⟩ true := by exact gd0) : J P ops fin (⟨t, .call ⟨.value (.func f), zs, tys⟩, ty, ps, af, gd⟩ :: r) H g E :=
  j_set hE hg (fun ρ β u w F hs he hH => by
    have hf : ρ (.func f) = .func (.func f) #[] #[] := he (.func f) (show Operand.func f ∈ (#[Operand.func f] ++ zs : Array Operand) from by simp) _ rfl
    have hre := envs_reps (β := β) (u := u) (ρ := ρ) hA (fun x hx Y hY => he x (show x ∈ (#[Operand.func f] ++ zs : Array Operand) from Array.mem_append_right _ (by simpa using hx)) Y hY)
    have := h _ β u w F hs (hre.le hl) hH
    unfold Res
    rw [show (execOp ρ ⟨t, .call ⟨.value (.func f), zs, tys⟩, ty, ps, af, gd⟩).run P w = .ok (.enter f (zs.toList.map ρ).toArray) w from by
      simp only [execOp, resolve, hf, Deferred.ofValue, Sem.run_bind, Sem.run_pure, Result.andThen_ok, invoke, hen _ w]
      congr 2
      apply Array.ext'; simp]
    exact this) hn
theorem eq_bool0 {t1 : TypeId} (hu : P.underlying t1 = some .bool) (d : Nat) (a b : Bool) (w : World) : (Op.equalIn (d + 1) t1 (.bool a) (.bool b)).run P w = .ok (a == b) w := by simp [Op.equalIn, run_underlying hu]
theorem eq_bool {t1 : TypeId} (hu : P.underlying t1 = some .bool) (a b : Bool) (w : World) : (Op.equalIn Op.maxDepth t1 (.bool a) (.bool b)).run P w = .ok (a == b) w := eq_bool0 hu 9999 a b w
/-- Truth values compared. -/
theorem eqb {t1 t2 : TypeId} {a b : Bool} {q : Bool} (hX : envl g x = some (T.c (.bool a))) (hY : envl g y = some (T.c (.bool b))) (hq : (a == b) = q) (hn : J P ops fin r (OpS.p (T.c (.bool q)) :: H) (putg t (T.c (.bool q)) g) E) (hg : GuardIs ops g ⟨t, .binOp .eql t1 x y t2, ty, ps, af, gd⟩ true := by exact gd0) (hu : P.underlying t1 = some .bool := by kernel_rfl) : J P ops fin (⟨t, .binOp .eql t1 x y t2, ty, ps, af, gd⟩ :: r) H g E :=
  bop hX hY (fun ρ w h1 h2 => by simp [execOp, h1, h2, eqGuard, binOp, Op.equal, eq_bool hu, ← hq]) hn hg
theorem neb {t1 t2 : TypeId} {a b : Bool} {q : Bool} (hX : envl g x = some (T.c (.bool a))) (hY : envl g y = some (T.c (.bool b))) (hq : (!(a == b)) = q) (hn : J P ops fin r (OpS.p (T.c (.bool q)) :: H) (putg t (T.c (.bool q)) g) E) (hg : GuardIs ops g ⟨t, .binOp .neq t1 x y t2, ty, ps, af, gd⟩ true := by exact gd0) (hu : P.underlying t1 = some .bool := by kernel_rfl) : J P ops fin (⟨t, .binOp .neq t1 x y t2, ty, ps, af, gd⟩ :: r) H g E :=
  bop hX hY (fun ρ w h1 h2 => by simp [execOp, h1, h2, eqGuard, binOp, Op.equal, eq_bool hu, bne, ← hq]) hn hg
/-- Wrapping: into 64 bits, turned about in 64 bits. -/
theorem cvw {src dst : TypeId} {k1 : IntKind} {a : Int} (z : Int) (hX : envl g x = some (T.c (.int k1 a))) (hc : Cv P src dst .u64) (hz : a % 18446744073709551616 = z) (hn : J P ops fin r (OpS.p (T.c (.int .u64 z)) :: H) (putg t (T.c (.int .u64 z)) g) E) (hg : GuardIs ops g ⟨t, .convert src dst x, ty, ps, af, gd⟩ true := by exact gd0) : J P ops fin (⟨t, .convert src dst x, ty, ps, af, gd⟩ :: r) H g E :=
  j_val hg (ok_pure fun ρ β u w F hs he hH => ⟨.int .u64 z, by
    have h1 : ρ x = .int k1 a := he x (by simp [Op.operands]) _ hX
    simp only [execOp, h1, Sem.run_bind, run_convert hc.1 hc.2, Result.andThen_ok, Sem.run_pure, IntKind.wrap_u64, hz], rfl⟩) hn
theorem ngm {t1 : TypeId} {a : Int} (z : Int) (hX : envl g x = some (T.c (.int .u64 a))) (hz : (0 - a) % 18446744073709551616 = z) (hn : J P ops fin r (OpS.p (T.c (.int .u64 z)) :: H) (putg t (T.c (.int .u64 z)) g) E) (hg : GuardIs ops g ⟨t, .unOp .neg t1 x, ty, ps, af, gd⟩ true := by exact gd0) : J P ops fin (⟨t, .unOp .neg t1 x, ty, ps, af, gd⟩ :: r) H g E :=
  uop hX (fun ρ w h1 => by
    have : (-a) % 18446744073709551616 = z := by rw [← hz]; congr 1; omega
    simp [execOp, h1, Op.unary, Op.intArith, IntKind.wrap_u64, this]) hn hg
theorem range_1 : Array.range 1 = #[0] := by decide
theorem range_2 : Array.range 2 = #[0, 1] := by decide
theorem els_cU (u : World) : ∀ ls : List Int, Els cU ls u (ls.map fun a => Value.int .u32 a)
  | [] => rfl
  | a :: r => ⟨.int .u32 a, _, by show (1 : Nat) ≠ 0; omega, rfl, rfl, els_cU u r⟩
theorem after_lit {w u : World} {β : Env} {F : FP} (τ : TypeId) {ls : List Int} (hs : Sub u w) (hl : ls.length ≤ 281474976710656) (h0 : 0 < ls.length) : After β u w F [] (lk []) [] (T.l cU ls) (.slice (some ⟨w.heap.size, 0, none⟩) ls.length ls.length) (w.alloc (.cells (ls.map fun a => Value.int .u32 a).toArray τ (0, 0))) := by
  have hg := World.grownBy_alloc w (.cells (ls.map fun a => Value.int .u32 a).toArray τ (0, 0)) none
  have hsw : Sub u (w.alloc (.cells (ls.map fun a => Value.int .u32 a).toArray τ (0, 0))) := fun a y hy => hg.cell (hs a y hy) (fun h => by cases h)
  have hd : ∀ k, k = w.heap.size → Dead u k := fun k hk a ha => by
    cases hc : u.cell? a with
    | none => rfl
    | some y =>
      have := hs a y hc
      subst hk
      unfold World.cell? at this
      rw [ha, Array.getElem?_eq_none (Nat.le_refl _)] at this
      cases this
  have hh : (w.alloc (.cells (ls.map fun a => Value.int .u32 a).toArray τ (0, 0))).heap[w.heap.size]? = some (.cells (ls.map fun a => Value.int .u32 a).toArray τ (0, 0)) := heap_alloc_new w _
  refine ⟨solid u (w.alloc (.cells (ls.map fun a => Value.int .u32 a).toArray τ (0, 0))) (· = w.heap.size), β, F, fun _ _ => rfl, ⟨hg.os, hg.tape, hg.output, hg.size, fun k hk _ => hg.block k hk (fun h => by cases h), solid_up hsw hd, solid_sub hsw, fun k hk _ hdk => solid_dead hsw (by omega) hdk⟩, Hold.none _ _ _ _, fun e X k h => (by cases h), _, _, _, rfl, rfl, Nat.le_refl _, by omega, fun _ => ⟨_, rfl, ls.map fun a => Value.int .u32 a, ?_, fun j y hy => ?_⟩⟩
  · exact els_cU _ ls
  · rw [add_none, Nat.zero_add, solid_in (S := (· = w.heap.size)) hsw rfl, cell_of_row _ _ j _ τ (0, 0) hh]
    simpa using hy
/-- A new row that is written to no more. -/
theorem after_fz {α : Type} {c : Cod α} {β : Env} {u w w' : World} {F : FP} {C N : List Nat} {e' : Nat} {τ : TypeId} {l : List α} {v : Value} (h : After β u w F C (lk [(e', Ent.row c τ l)]) N (T.o e') v w') : After β u w F C (lk []) [] (T.l c l) v w' := by
  obtain ⟨u', β', F', hb, ht, hO, hF, hR⟩ := h
  have hs := ht.sub
  have hd : ∀ k, F' e' k → Dead u' k := fun k hk => (hO.dead e' _ k lk1_same hk).1
  obtain ⟨xs, k1, k2, k3⟩ := hO.hold e' _ lk1_same
  have hup := solid_up hs hd
  refine ⟨solid u' w' (F' e'), β, F, fun _ _ => rfl, ⟨ht.os, ht.tape, ht.output, ht.size, ht.block, ht.old.trans hup, solid_sub hs, fun k hk hc hdk => solid_dead hs (fun hk' => ?_) (ht.dead k hk hc hdk)⟩, Hold.none _ _ _ _, fun e X k h => (by cases h), ?_⟩
  · rcases hF e' _ k lk1_same hk' with h1 | h1
    · exact hc h1
    · omega
  · obtain ⟨q2, _⟩ := hR
    rw [q2]
    rcases k1.2 with ⟨ev, hn⟩ | ⟨q, cap, cur, ev, hg0, hh, hc1, hc2, hc3, hc4⟩
    · rw [ev]
      exact ⟨none, 0, 0, rfl, hn, Nat.le_refl _, by omega, fun h => absurd h (by omega)⟩
    · refine ⟨_, _, _, ev, rfl, hc1, by unfold maxLen at hc2; omega, fun hp => ⟨_, rfl, xs, k2.mono hup, fun j y hy => ?_⟩⟩
      have hq : F' e' q := (k3 q).2 (by rw [ev]; rfl)
      rw [add_none, Nat.zero_add, solid_in hs hq, cell_of_row w' q j cur τ (0, 0) hh]
      rw [← hc4] at hy
      rw [List.getElem?_take] at hy
      split at hy
      · simpa using hy
      · cases hy
/-- append to a row of one's own, which is written to no more. -/
theorem apf {α : Type} {c : Cod α} {xs ys : List α} {τ : TypeId} {bytes : Nat} [hl : IsL Y c ys] (hX : envl g x = some (T.o e)) (hE : lkE E e = some (Ent.row c τ xs)) (hY : envl g y = some Y) (hT : SlT P et τ c.sz bytes) (hb : (xs.length + ys.length) * bytes ≤ 140737488355328) (h0 : 0 < bytes)
    (hn : J P ops fin r (⟨[], [e], [], [], T.l c (xs ++ ys)⟩ :: H) (putg t (T.l c (xs ++ ys)) g) ((e, none) :: E)) (hg : GuardIs ops g ⟨t, .call ⟨.builtin .append, #[x, y], #[et, et]⟩, ty, ps, af, gd⟩ true := by exact gd0) : J P ops fin (⟨t, .call ⟨.builtin .append, #[x, y], #[et, et]⟩, ty, ps, af, gd⟩ :: r) H g E := by
  refine ⟨⟨[], [e], [], [], T.l c (xs ++ ys)⟩, (e, none) :: E, .inl ⟨hg, fun f he => ⟨Ent.row c τ xs, by rw [show f = e from by simpa using he]; exact hE⟩, ?_⟩, fun f => ?_, hn⟩
  · have : (fun f => if f ∈ (OpS.mk [] [e] [] [] (T.l c (xs ++ ys))).uses ++ (OpS.mk [] [e] [] [] (T.l c (xs ++ ys))).cons then lkE E f else none) = lk [(e, Ent.row c τ xs)] := funext fun f => by
      rw [lk_cons]
      by_cases h : e = f
      · subst h; rw [if_pos (by simp), if_pos rfl, hE]
      · rw [if_neg (by simp; exact fun h' => h h'.symm), if_neg h]; rfl
    rw [this]
    intro ρ β u w F hs he hH
    obtain ⟨h1, A, n, k, h2⟩ := he x (by simp [Op.operands, Call.operands]) _ hX
    have hy := (T.l c ys).ext (β' := B0) (fun _ h => by cases h) (hl.le _ _ _ (he y (by simp [Op.operands, Call.operands]) _ hY))
    obtain ⟨zs, k1, k2, k3⟩ := hH.hold e _ lk1_same
    rw [← h1] at k1
    obtain ⟨v', w', hr, ho, hgw, hv, hsl⟩ := run_append (ty := ty) hT k1 k2 hy hs hb h0
    unfold Res
    simp only [execOp, resolve, invoke, builtin, Sem.run_bind, Sem.run_pure, Result.andThen_ok, List.map_toArray, List.map_cons, List.map_nil, hr]
    exact after_fz (after_row hH hs (by rw [← h1]; exact hgw) ho (by rw [← h1]; exact hv) (e' := e + 1) (N := [e + 1]) (β' := setE β (e + 1) v') (fun f hf => setE_ne _ _ (by simpa using hf)) (setE_same _ _ _) ⟨(setE_same _ _ _).symm, hsl⟩)
  · unfold lkE OpS.upd
    rw [lk_cons]
    by_cases h2 : e = f
    · subst h2; simp [lk]
    · rw [if_neg h2]
      simp [lk, Ne.symm h2]
/-- []T{a}: a row of one's own. -/
theorem bo1 {τ : TypeId} {bytes : Nat} {a : Int} (e : Nat) (hX : envl g x = some (T.c (.int .u32 a))) (hT : SlT P et τ 1 bytes) (hz : (P.info? τ).bind (·.zero) = some (.int .u32 0)) (hn : J P ops fin r (⟨[], [], [(e, Ent.row cU τ [a])], [e], T.o e⟩ :: H) (putg t (T.o e) g) ((e, some (Ent.row cU τ [a])) :: E)) (hg : GuardIs ops g ⟨t, .buildSlice et 1 #[(0, x)], ty, ps, af, gd⟩ true := by exact gd0) : J P ops fin (⟨t, .buildSlice et 1 #[(0, x)], ty, ps, af, gd⟩ :: r) H g E :=
  j_new hg (fun ρ β u w F hs he hH => by
    have hx : ρ x = _ := he x (by simp [Op.operands]) _ hX
    obtain ⟨ht, inf, z, hi', hz0, hz1, hz2, hzc⟩ := hT.info
    rw [hi', Option.bind_some, hz0] at hz
    cases hz
    unfold Res
    rw [show (execOp ρ ⟨t, .buildSlice et 1 #[(0, x)], ty, ps, af, gd⟩).run P w = .ok (.value (.slice (some ⟨w.heap.size, 0, none⟩) 1 1)) (w.alloc (.cells #[.int .u32 a] τ (0, 0))) from by
      simp [execOp, hx, Instr.buildSlice, run_underlying ht, sizeOf, typeInfo, hi', hz0, hz1, zeroValue, Value.cells, Instr.fill, newRow, range_1]]
    refine after_newrow hs (World.grownBy_alloc _ _ _) ⟨[.int .u32 a], ?_, els_cU _ [a]⟩ (.inr rfl) ⟨_, _, _, rfl⟩
    exact World.ownsRow_lit (w := w) (base := 0) (e := τ) (size := 1) #[.int .u32 a] 1 (Nat.zero_le _) (by unfold maxLen; omega) rfl) hn
/-- []T{a}, []T{a, b}: of limbs. -/
theorem bl1 {τ : TypeId} {bytes : Nat} {a : Int} (hX : envl g x = some (T.c (.int .u32 a))) (hT : SlT P et τ 1 bytes) (hz : (P.info? τ).bind (·.zero) = some (.int .u32 0)) (hn : J P ops fin r (OpS.p (T.l cU [a]) :: H) (putg t (T.l cU [a]) g) E) (hg : GuardIs ops g ⟨t, .buildSlice et 1 #[(0, x)], ty, ps, af, gd⟩ true := by exact gd0) : J P ops fin (⟨t, .buildSlice et 1 #[(0, x)], ty, ps, af, gd⟩ :: r) H g E :=
  j_val hg (fun ρ β u w F hs he hH => by
    have hx : ρ x = _ := he x (by simp [Op.operands]) _ hX
    obtain ⟨ht, inf, z, hi', hz0, hz1, hz2, hzc⟩ := hT.info
    rw [hi', Option.bind_some, hz0] at hz
    cases hz
    have := after_lit (β := β) (F := F) (ls := [a]) τ hs (by simp) (by simp)
    unfold Res
    rw [show (execOp ρ ⟨t, .buildSlice et 1 #[(0, x)], ty, ps, af, gd⟩).run P w = .ok (.value (.slice (some ⟨w.heap.size, 0, none⟩) 1 1)) (w.alloc (.cells #[.int .u32 a] τ (0, 0))) from by
      simp [execOp, hx, Instr.buildSlice, run_underlying ht, sizeOf, typeInfo, hi', hz0, hz1, zeroValue, Value.cells, Instr.fill, newRow, range_1]]
    exact this) hn
theorem bl2 {τ : TypeId} {bytes : Nat} {a d : Int} (hX : envl g x = some (T.c (.int .u32 a))) (hY : envl g y = some (T.c (.int .u32 d))) (hT : SlT P et τ 1 bytes) (hz : (P.info? τ).bind (·.zero) = some (.int .u32 0)) (hn : J P ops fin r (OpS.p (T.l cU [a, d]) :: H) (putg t (T.l cU [a, d]) g) E) (hg : GuardIs ops g ⟨t, .buildSlice et 2 #[(0, x), (1, y)], ty, ps, af, gd⟩ true := by exact gd0) : J P ops fin (⟨t, .buildSlice et 2 #[(0, x), (1, y)], ty, ps, af, gd⟩ :: r) H g E :=
  j_val hg (fun ρ β u w F hs he hH => by
    have hx : ρ x = _ := he x (by simp [Op.operands]) _ hX
    have hy : ρ y = _ := he y (by simp [Op.operands]) _ hY
    obtain ⟨ht, inf, z, hi', hz0, hz1, hz2, hzc⟩ := hT.info
    rw [hi', Option.bind_some, hz0] at hz
    cases hz
    have := after_lit (β := β) (F := F) (ls := [a, d]) τ hs (by simp) (by simp)
    unfold Res
    rw [show (execOp ρ ⟨t, .buildSlice et 2 #[(0, x), (1, y)], ty, ps, af, gd⟩).run P w = .ok (.value (.slice (some ⟨w.heap.size, 0, none⟩) 2 2)) (w.alloc (.cells #[.int .u32 a, .int .u32 d] τ (0, 0))) from by
      simp [execOp, hx, hy, Instr.buildSlice, run_underlying ht, sizeOf, typeInfo, hi', hz0, hz1, zeroValue, Value.cells, Instr.fill, newRow, range_2]]
    exact this) hn
end
section
variable {P : Program} {x : Code} {Q : Exit → Act → World → Prop} {ctx : Ctx} {n : Nat} {g : List (Nat × T)} {E : List (Nat × Option Ent)} {α : Type} {c : Cod α} {l : List α} {τ : TypeId}
/-- A row as a view. -/
theorem tri_ov (t e m : Nat) (ht : lk g t = some (T.o e)) (hE : lkE E e = some (Ent.row c τ l)) (hl : m = l.length ∧ 0 < m) (h : Tri P x Q ctx n ((t, T.v e 0 m) :: g) E) : Tri P x Q ctx n g E := fun a w hS => h a w (by
  obtain ⟨rfl, hl⟩ := hl
  obtain ⟨β, u, F, h1, h2, h3, h4, h5, h6, h7⟩ := hS
  refine ⟨β, u, F, h1, h2, fun t' X hX => ?_, h4, h5, h6, h7⟩
  rw [lk_cons] at hX
  split at hX
  · rename_i e1
    subst e1
    cases hX
    obtain ⟨v, q1, q2, q3⟩ := h3 t _ ht
    obtain ⟨zs, k1, k2, k3⟩ := h4.hold e _ hE
    rcases k1.2 with ⟨ev, hn⟩ | ⟨q, k, cur, ev, _, _, hc, _⟩
    · omega
    · exact ⟨v, q1, q, _, k, ev, by omega, by rw [q2, ev]; simp⟩
  · exact h3 t' X hX)
/-- The head of a row that is written to no more. -/
theorem tri_rdv (t e m : Nat) (ht : lk g t = some (T.v e 0 m)) (hE : lkE E e = some (Ent.frz c l)) (hm : m ≤ l.length) (h : Tri P x Q ctx n ((t, T.l c (l.take m)) :: g) E) : Tri P x Q ctx n g E := fun a w hS => h a w (by
  obtain ⟨β, u, F, h1, h2, h3, h4, h5, h6, h7⟩ := hS
  refine ⟨β, u, F, h1, h2, fun t' X hX => ?_, h4, h5, h6, h7⟩
  rw [lk_cons] at hX
  split at hX
  · rename_i e1
    subst e1
    cases hX
    obtain ⟨v, q1, b, p, k, q2, q3, q4⟩ := h3 t _ ht
    have hf := (h4.hold e _ hE).2
    rw [q2] at hf
    have := cut_rep (lo := 0) (B := some ⟨b, 0, none⟩) hf (Nat.zero_le _) hm (fun _ => by simp [Addr.add])
    exact ⟨v, q1, (T.l c _).ext (β := B0) (fun _ h => by cases h) (by rw [q4]; simpa using this)⟩
  · exact h3 t' X hX)
end
section
variable {P : Program} {x : Code} {Q : Exit → Act → World → Prop} {ctx : Ctx} {n : Nat} {g : List (Nat × T)} {E : List (Nat × Option Ent)}
/-- A whole number, laid open. -/
theorem tri_zi (t : Nat) {z : Int} {k : Nat} (ht : lk g t = some (T.Zi z k)) (h : ∀ (s : Bool) (M : Nat) (xs : List Int), Lim xs → val xs = M → xs.length ≤ k → z = intv s M → (T.st [T.c (.bool s), T.l cU xs]).le (T.Zi (intv s M) k) → Tri P x Q ctx n ((t, T.st [T.c (.bool s), T.l cU xs]) :: g) E) : Tri P x Q ctx n g E :=
  tri_ex t ht fun ⟨s, xs⟩ ⟨h1, h2, h3⟩ => by
    obtain ⟨M, hM⟩ := Int.eq_ofNat_of_zero_le (val_nonneg h1)
    have e : z = intv s M := by rw [h2]; show iv s (val xs) = _; rw [hM]; rfl
    exact h s M xs h1 hM h3 e (zi_of h1 (by show _ = iv s (val xs); rw [hM]; rfl) h3)
theorem pn_sub {K : Act → World → Prop} {g' : List (Nat × T)} {E' : List (Nat × Option Ent)} (hg : SubG g' g) (hE : SubE E' E) (h : PN ctx n K g' E') : PN ctx n K g E := fun a w hS => h a w (hS.sub hg hE)
/-- A row of one's own gets another name. -/
theorem pn_ren {α : Type} {c : Cod α} {l : List α} {τ : TypeId} {K : Act → World → Prop} (t e e' : Nat) (ht : lk g t = some (T.o e')) (hE : lkE E e' = some (Ent.row c τ l)) (hf : ((nsOf g ++ nsE E ++ ctx.I).contains e) = false) (h : PN ctx n K ((t, T.o e) :: g) ((e, some (Ent.row c τ l)) :: (e', none) :: E)) : PN ctx n K g E := fun a w hS => h a w (by
  obtain ⟨β, u, F, h1, h2, h3, h4, h5, h6, h7⟩ := hS
  have hfr : e ∉ nsOf g ∧ e ∉ nsE E ∧ e ∉ ctx.I := by
    simp only [List.contains_eq_mem, decide_eq_false_iff_not, List.mem_append, not_or] at hf
    exact ⟨hf.1.1, hf.1.2, hf.2⟩
  have hne : e ≠ e' := fun h => hfr.2.1 (h ▸ (lkE_base hE).1)
  have hb : ∀ f, f ≠ e → setE β e (β e') f = β f := fun f hne => setE_ne _ _ hne
  have hlk : ∀ f, lkE ((e, some (Ent.row c τ l)) :: (e', none) :: E) f = if e = f then some (Ent.row c τ l) else if e' = f then none else lkE E f := fun f => by
    unfold lkE
    rw [lk_cons, lk_cons]
    by_cases h : e = f
    · rw [if_pos h, if_pos h]; rfl
    · rw [if_neg h, if_neg h]
      by_cases h2 : e' = f
      · rw [if_pos h2, if_pos h2]; rfl
      · rw [if_neg h2, if_neg h2]
  have key : ∀ f X, lkE ((e, some (Ent.row c τ l)) :: (e', none) :: E) f = some X → (f = e ∧ X = Ent.row c τ l) ∨ (f ≠ e ∧ f ≠ e' ∧ lkE E f = some X) := fun f X hX => by
    rw [hlk] at hX
    split at hX
    · rename_i h; cases hX; exact .inl ⟨h.symm, rfl⟩
    · split at hX
      · cases hX
      · rename_i h h2; exact .inr ⟨Ne.symm h, Ne.symm h2, hX⟩
  refine ⟨setE β e (β e'), u, fun f k => if f = e then F e' k else F f k, h1, h2, fun t' X hX => ?_, ⟨fun f X hX => ?_, fun f X k hX hk => ?_, fun f f' X Y k hX hY hn hk hk' => ?_⟩, h5, fun f X k hX hk => ?_, fun f hf => (hb f (fun h => hfr.2.2 (h ▸ hf))).trans (h7 f hf)⟩
  · rw [lk_cons] at hX
    split at hX
    · rename_i e1
      subst e1
      cases hX
      obtain ⟨v, q1, q2, q3⟩ := h3 t _ ht
      exact ⟨v, q1, by rw [setE_same]; exact q2, q3⟩
    · obtain ⟨v, q1, q2⟩ := h3 t' X hX
      exact ⟨v, q1, X.ext (fun q hq => hb q (fun h => hfr.1 (h ▸ lk_base hX q hq))) q2⟩
  · rcases key f X hX with ⟨rfl, rfl⟩ | ⟨n1, n2, hX'⟩
    · rw [setE_same, show (fun k => if f = f then F e' k else F f k) = F e' from funext fun k => if_pos rfl]
      exact (Ent.row c τ l).ext (fun q hq => by cases hq) (h4.hold e' _ hE)
    · rw [hb f n1, show (fun k => if f = e then F e' k else F f k) = F f from funext fun k => if_neg n1]
      exact X.ext (fun q hq => hb q (fun h => hfr.2.1 (h ▸ (lkE_base hX').2 q hq))) (h4.hold f X hX')
  · rcases key f X hX with ⟨rfl, rfl⟩ | ⟨n1, n2, hX'⟩
    · simp only [if_true] at hk; exact h4.dead e' _ k hE hk
    · simp only [if_neg n1] at hk; exact h4.dead f X k hX' hk
  · rcases key f X hX with ⟨rfl, rfl⟩ | ⟨n1, n2, hX'⟩ <;> rcases key f' Y hY with ⟨rfl, rfl⟩ | ⟨m1, m2, hY'⟩
    · exact hn rfl
    · simp only [if_true] at hk; simp only [if_neg m1] at hk'; exact h4.apart e' f' _ Y k hE hY' (Ne.symm m2) hk hk'
    · simp only [if_true] at hk'; simp only [if_neg n1] at hk; exact h4.apart f e' X _ k hX' hE n2 hk hk'
    · simp only [if_neg n1] at hk; simp only [if_neg m1] at hk'; exact h4.apart f f' X Y k hX' hY' hn hk hk'
  · rcases key f X hX with ⟨rfl, rfl⟩ | ⟨n1, n2, hX'⟩
    · simp only [if_true] at hk; exact h6 e' _ k hE hk
    · simp only [if_neg n1] at hk; exact h6 f X k hX' hk)
end
end Go.Proofs.Ytlmiadjogdfjkaa.V
