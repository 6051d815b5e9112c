/- A logic of calls: fields, structs put together, whole numbers of the machine, closures. -/
import Derived.Test.YtlmiadjogdfjkaaV5
set_option linter.unusedVariables false
set_option linter.unusedSimpArgs false
namespace Go.Proofs.Ytlmiadjogdfjkaa.V
open Go.RowKit

def fieldOf (P : Program) (ty : TypeId) (k : Nat) : Option (Nat × TypeId) := (P.underlying ty).bind fun | .struct fs => (fs[k]?).map fun f => (f.offset, f.type) | _ => none
/-- A field: where it begins, is it a struct? of how many cells? -/
structure FieldT (P : Program) (ty : TypeId) (k : Nat) (off : Nat) (b : Bool) (m : Nat) : Prop where
  of : ∃ fty, fieldOf P ty k = some (off, fty) ∧ Ty P fty b m
  one : (b || m == 1) = true
  pos : m ≠ 0
theorem FieldT.mk' {P : Program} {ty fty : TypeId} {k off m : Nat} {b : Bool} (hT : Ty P fty b m) (h : fieldOf P ty k = some (off, fty) := by kernel_rfl) (h1 : (b || m == 1) = true := by rfl) (h2 : Nat.beq m 0 = false := by rfl) : FieldT P ty k off b m := ⟨⟨fty, h, hT⟩, h1, fun e => by subst e; cases h2⟩
section
variable {P : Program} {ty : TypeId} {k off m : Nat} {b : Bool}
theorem FieldT.desc (h : FieldT P ty k off b m) : ∃ fs f, P.underlying ty = some (.struct fs) ∧ fs[k]? = some f ∧ f.offset = off ∧ Ty P f.type b m := by
  obtain ⟨⟨fty, h1, h2⟩, _⟩ := h
  unfold fieldOf at h1
  obtain ⟨d, hd, hf⟩ := Option.bind_eq_some_iff.1 h1
  cases d with
  | struct fs =>
    obtain ⟨f, hf1, hf2⟩ := Option.map_eq_some_iff.1 hf
    simp only [Prod.mk.injEq] at hf2
    exact ⟨fs, f, hd, hf1, hf2.1, by rw [hf2.2]; exact h2⟩
  | _ => cases hf
theorem run_field (h : FieldT P ty k off b m) {cs : List Value} (w : World) (hl : off + m ≤ cs.length) : (Instr.field ty (.agg cs.toArray) k).run P w = .ok (asVal b ((cs.drop off).take m)) w := by
  obtain ⟨fs, f, h1, h2, h3, h4⟩ := h.desc
  subst h3
  have hp : (part f.type cs.toArray f.offset).run P w = .ok (asVal b ((cs.drop f.offset).take m)) w := by
    unfold part
    rw [Sem.run_bind, run_isAgg h4, Result.andThen_ok]
    cases b with
    | true =>
      simp only [if_true, Sem.run_bind, run_sizeOf h4, Result.andThen_ok, Sem.run_pure, asVal]
      congr 2
      apply Array.ext'
      simp [List.extract_eq_take_drop]
    | false =>
      have hm : m = 1 := by have := h.one; simpa using this
      subst hm
      have hlt : f.offset < cs.length := by omega
      have e1 : (cs.drop f.offset).take 1 = [cs[f.offset]] := by rw [List.drop_eq_getElem_cons hlt]; rfl
      rw [e1]
      simp [asVal, List.getElem?_eq_getElem hlt]
  simp [Instr.field, run_underlying h1, h2, asAgg, hp]
theorem run_fieldAt (h : FieldT P ty k off b m) (ad : Addr) (w : World) : (Instr.fieldAt ty (.pointer (some ad)) k).run P w = .ok (.pointer (some (ad.add off))) w := by
  obtain ⟨fs, f, h1, h2, h3, h4⟩ := h.desc
  subst h3
  have hp := h.pos
  simp [Instr.fieldAt, run_underlying h1, h2, Instr.sureAddr, fieldPlace, run_sizeOf h4, hp]
end
theorem Stand.at2 {u : World} {ad : Addr} {zs p q vs : List Value} {n : Nat} (h : Stand u ad zs) (e : zs = p ++ vs ++ q) (hp : p.length = n) : Stand u (ad.add n) vs := h.at (v := .agg vs.toArray) (by simpa [Value.cells] using e) hp |> fun h => by simpa [Value.cells] using h
/-- The cells of a value of a type. -/
theorem asVal_cells {b : Bool} {cs : List Value} {m : Nat} (h1 : b = false → m = 1) (hl : cs.length = m) (ho : cs.all Value.oneCell' = true) : (asVal b cs).cells.toList = cs := by
  cases b with
  | true => simp [asVal, Value.cells]
  | false =>
    have hm := h1 rfl
    subst hm
    match cs, hl, ho with
    | [y], _, ho =>
      have h1y : y.oneCell' = true := by simpa using ho
      simp only [asVal, Bool.false_eq_true, if_false, List.headD_cons]
      cases y <;> first | rfl | (simp [Value.oneCell'] at h1y)

theorem one_sz {v : Value} (h : v.oneCell' = true) : szOf v = 1 ∧ v.cells.toList = [v] := by cases v <;> first | exact ⟨rfl, rfl⟩ | (simp [Value.oneCell'] at h)
theorem cells_c {β : Env} {u : World} : ∀ {zs : List Value}, zs.all Value.oneCell' = true → Cells β u (zs.map T.c) zs
  | [], _ => rfl
  | z :: r, h => by
    simp only [List.all_cons, Bool.and_eq_true] at h
    obtain ⟨h1, h2⟩ := one_sz h.1
    exact ⟨z, r, by show szOf z ≠ 0; omega, rfl, by rw [h2]; rfl, cells_c h.2⟩
def placesOf (P : Program) (ty : TypeId) : Option (List (Nat × Nat)) := (P.underlying ty).bind fun | .struct fs => some (fs.toList.map fun f => (f.offset, ((P.info? f.type).map (·.size)).getD 0)) | _ => none
/-- A struct type: its nought, its fields' places. -/
structure StructT (P : Program) (ty : TypeId) (l : List T) (pl : List (Nat × Nat)) : Prop where
  zero : ∃ zs inf, P.info? ty = some inf ∧ inf.zero = some (.agg (List.toArray zs)) ∧ ∀ β u, Cells β u l zs
  places : placesOf P ty = some pl
  sizes : ∃ fs, P.underlying ty = some (.struct fs) ∧ ∀ f ∈ fs, ∃ inf, P.info? f.type = some inf
theorem StructT.mk' {P : Program} {ty : TypeId} {zs : List Value} {pl : List (Nat × Nat)} (h1 : (P.info? ty).bind (·.zero) = some (.agg zs.toArray) := by kernel_rfl) (h2 : placesOf P ty = some pl := by kernel_rfl)
    (h3 : ((P.underlying ty).bind fun | .struct fs => some (fs.toList.all fun f => (P.info? f.type).isSome) | _ => none) = some true := by kernel_rfl) (h4 : zs.all Value.oneCell' = true := by rfl) : StructT P ty (zs.map T.c) pl := by
  obtain ⟨inf, e1, e2⟩ := Option.bind_eq_some_iff.1 h1
  refine ⟨⟨zs, inf, e1, e2, fun β u => cells_c h4⟩, h2, ?_⟩
  obtain ⟨d, hd, hf⟩ := Option.bind_eq_some_iff.1 h3
  cases d with
  | struct fs =>
    simp only [Option.some.injEq, List.all_eq_true] at hf
    exact ⟨fs, hd, fun f hm => Option.isSome_iff_exists.1 (hf f (by simpa using hm))⟩
  | _ => cases hf
theorem zero_of {P : Program} {ty : TypeId} {zs : List Value} {z : Value} (h1 : (P.info? ty).bind (·.zero) = some z) (h2 : z.cells = zs.toArray := by rfl) (h4 : zs.all Value.oneCell' = true := by rfl) : Zero P ty (zs.map T.c) := by
  obtain ⟨inf, e1, e2⟩ := Option.bind_eq_some_iff.1 h1
  refine ⟨zs, fun w => ?_, fun β u => cells_c h4⟩
  simp [Instr.alloc, zeroValue, typeInfo, e1, e2, newVar, newRow, h2]
section
variable {P : Program} {ops : Array Oper} {fin : List OpS → List (Nat × T) → List (Nat × Option Ent) → Prop} {r : List Oper} {H : List OpS} {g : List (Nat × T)} {E : List (Nat × Option Ent)} {o : Oper}
variable {t : Option Nat} {ty : TypeId} {ps : String} {af : Array Edge} {gd : Option (Nat × Bool)} {x y : Operand} {X Y : T} {e off m : Nat} {b : Bool} {l l' : List T} {et : TypeId}
/-- A field's place in a box. -/
theorem fa {k o1 : Nat} (hX : envl g x = some (T.p e off)) (hF : FieldT P et k o1 b m) (off' : Nat) (hn : J P ops fin r (OpS.p (T.p e off') :: H) (putg t (T.p e off') g) E) (ho : off + o1 = off' := by rfl) (hg : GuardIs ops g ⟨t, .fieldAddr et x k, ty, ps, af, gd⟩ true := by exact gd0) : J P ops fin (⟨t, .fieldAddr et x k, ty, ps, af, gd⟩ :: r) H g E :=
  j_val hg (ok_pure fun ρ β u w F hs he hH => by
    obtain ⟨p, h1, h2⟩ := he x (by simp [Op.operands]) _ hX
    exact ⟨pt p off', by simp only [execOp, h2, Sem.run_bind, run_fieldAt hF, add_none, ho, Result.andThen_ok, Sem.run_pure], p, h1, rfl⟩) hn
/-- A field. -/
theorem fd {k : Nat} [hsp : Sp X l] (hX : envl g x = some X) (hf : FieldT P et k off b m) (hF : fieldT b l off m = some Y) (hn : J P ops fin r (OpS.p Y :: H) (putg t Y g) E) (hg : GuardIs ops g ⟨t, .field et x k, ty, ps, af, gd⟩ true := by exact gd0) : J P ops fin (⟨t, .field et x k, ty, ps, af, gd⟩ :: r) H g E :=
  j_val hg (ok_pure fun ρ β u w F hs he hH => by
    obtain ⟨cs, h1, h2⟩ := hsp.le _ _ _ (he x (by simp [Op.operands]) _ hX)
    obtain ⟨c1, c2⟩ := h2.field hF
    exact ⟨_, by simp only [execOp, h1, Sem.run_bind, run_field hf w c1, Result.andThen_ok, Sem.run_pure], c2⟩) hn
/-- A field's place in what stands for good. -/
theorem ff {k : Nat} [hsp : Sp X l] (hX : envl g x = some (T.fp X)) (hf : FieldT P et k off b m) (hF : fieldT b l off m = some Y) (hn : J P ops fin r (OpS.p (T.fp Y) :: H) (putg t (T.fp Y) g) E) (hY : Nat.beq Y.sz 0 = false := by rfl) (hg : GuardIs ops g ⟨t, .fieldAddr et x k, ty, ps, af, gd⟩ true := by exact gd0) : J P ops fin (⟨t, .fieldAddr et x k, ty, ps, af, gd⟩ :: r) H g E :=
  j_val hg (ok_pure fun ρ β u w F hs he hH => by
    obtain ⟨ad, v, h2, _, h3, h4⟩ := he x (by simp [Op.operands]) _ hX
    obtain ⟨cs, e1, h5⟩ := hsp.le _ _ _ h3
    obtain ⟨c1, c2⟩ := h5.field hF
    have hl : ((cs.drop off).take m).length = m := by rw [List.length_take, List.length_drop]; omega
    have e2 : (asVal b ((cs.drop off).take m)).cells.toList = (cs.drop off).take m := asVal_cells (m := m) (fun e => by have := hf.one; rw [e] at this; simpa using this) hl (List.all_eq_true.2 fun z hz => List.all_eq_true.1 h5.flat.2 z (List.mem_of_mem_drop (List.mem_of_mem_take hz)))
    refine ⟨_, by simp only [execOp, h2, Sem.run_bind, run_fieldAt hf, Result.andThen_ok, Sem.run_pure], ad.add off, _, rfl, (fun h => by rw [h] at hY; cases hY), c2, ?_⟩
    rw [e2]
    subst e1
    exact h4.at2 (p := cs.take off) (q := (cs.drop off).drop m) (by simp only [Value.cells]; rw [List.append_assoc, List.take_append_drop, List.take_append_drop]) (by simp; omega)) hn
/-! structs put together -/
def puts (g : List (Nat × T)) (pl : List (Nat × Nat)) : List T → List (Nat × Operand) → Option (List T)
  | l, [] => some l
  | l, (i, x) :: r => match pl[i]?, envl g x with
    | some (off, sz), some X => bif Nat.beq X.sz sz && !(Nat.beq sz 0) then (match putC l off X with | some l' => puts g pl l' r | none => none) else none
    | _, _ => none
theorem foldl_patch : ∀ (vs : List Value) (off k : Nat) (cs : Array Value), off + k + vs.length ≤ cs.size → (vs.zipIdx k).foldl (fun cs (p : Value × Nat) => cs.setIfInBounds (off + p.2) p.1) cs = (cs.toList.take (off + k) ++ vs ++ cs.toList.drop (off + k + vs.length)).toArray
  | [], off, k, cs, h => by simp
  | v :: r, off, k, cs, h => by
    rw [List.zipIdx_cons, List.foldl_cons, foldl_patch r off (k + 1) _ (by simp at h ⊢; omega)]
    simp only [Array.toList_setIfInBounds, List.length_cons]
    congr 1
    have hlt : off + k < cs.toList.length := by simp at h ⊢; omega
    rw [show off + (k + 1) = (off + k) + 1 by omega, List.take_succ_eq_append_getElem (by simpa using hlt), List.take_set_of_le (Nat.le_refl _), List.drop_set_of_lt (by omega)]
    simp [show off + k + (r.length + 1) = off + k + 1 + r.length by omega]
theorem fill_puts {β : Env} {u : World} {ρ : Operand → Value} {pl : List (Nat × Nat)} {place : Nat → Option (Nat × Nat)} (hpl0 : ∀ i q, pl[i]? = some q → place i = some q) : ∀ {parts : List (Nat × Operand)} {l l' : List T} {cs : List Value}, puts g pl l parts = some l' → (∀ p ∈ parts, ∀ Y, envl g p.2 = some Y → Y.rep β u (ρ p.2)) → Cells β u l cs →
    ∃ cs', Instr.fill place cs.toArray (parts.map fun p => (p.1, ρ p.2)) = some (List.toArray cs') ∧ Cells β u l' cs'
  | [], l, l', cs, h, _, hc => by cases h; exact ⟨cs, rfl, hc⟩
  | (i, x) :: r, l, l', cs, h, he, hc => by
    unfold puts at h
    split at h
    · rename_i off sz X h1 h2
      cases hb : (Nat.beq X.sz sz && !(Nat.beq sz 0)) with
      | false => rw [hb] at h; cases h
      | true =>
        rw [hb] at h
        simp only [Bool.and_eq_true, Bool.not_eq_true'] at hb
        have hsz : X.sz = sz := Nat.eq_of_beq_eq_true hb.1
        have h0 : X.sz ≠ 0 := fun e => by rw [e] at hsz; subst hsz; cases hb.2
        simp only [cond_true] at h
        cases hp : putC l off X with
        | none => rw [hp] at h; cases h
        | some l1 =>
          rw [hp] at h
          have hr := he (i, x) List.mem_cons_self X h2
          obtain ⟨c1, c2⟩ := hc.put hr h0 hp
          have hf := (X.shp hr h0).1
          obtain ⟨cs', k1, k2⟩ := fill_puts hpl0 (parts := r) h (fun p hp => he p (List.mem_cons_of_mem _ hp)) c2
          refine ⟨cs', ?_, k2⟩
          have hl1 : (ρ x).cells.size = sz := by rw [← hsz]; simpa using hf.1
          have hpl : place i = some (off, sz) := hpl0 i _ h1
          show (match place i with | none => none | some (off, size) => _) = _
          rw [hpl]
          simp only
          have hcs : (decide ((ρ x).cells.size ≠ sz) || decide (off + (ρ x).cells.size > cs.toArray.size)) = false := by
            simp [hl1]; omega
          rw [hcs]
          simp only [Bool.false_eq_true, if_false]
          rw [← k1]
          congr 1
          have := foldl_patch (ρ x).cells.toList off 0 cs.toArray (by simp [hl1]; omega)
          rw [← Array.foldl_toList, Array.toList_zipIdx]
          simpa [patch] using this
    · cases h
theorem run_build {pl : List (Nat × Nat)} {lz : List T} (hS : StructT P et lz pl) {parts : Array (Nat × Operand)} (hp : puts g pl lz parts.toList = some l') {β : Env} {u w : World} {ρ : Operand → Value} (he : ∀ p ∈ parts, ∀ Y, envl g p.2 = some Y → Y.rep β u (ρ p.2)) : ∃ cs, (Instr.build et (parts.map fun p => (p.1, ρ p.2))).run P w = .ok (.agg (List.toArray cs)) w ∧ Cells β u l' cs := by
  obtain ⟨zs, inf, h1, h2, h3⟩ := hS.zero
  obtain ⟨fs, k1, k2⟩ := hS.sizes
  have hpl := hS.places
  unfold placesOf at hpl
  rw [k1] at hpl
  simp only [Option.bind_some, Option.some.injEq] at hpl
  obtain ⟨cs, q1, q2⟩ := fill_puts (place := (pl.toArray[·]?)) (fun i q h => by simpa using h) hp (fun p hp => he p (by simpa using hp)) (h3 β u)
  refine ⟨cs, ?_, q2⟩
  have hm : ∀ (w : World), (fs.mapM fun f => do pure (f.offset, ← sizeOf f.type) : Sem (Array (Nat × Nat))).run P w = .ok pl.toArray w := fun w => by
    rw [← hpl, Array.mapM_eq_mapM_toList]
    have key : ∀ l : List Field, (∀ f ∈ l, ∃ inf, P.info? f.type = some inf) → (l.mapM (fun f => do pure (f.offset, ← sizeOf f.type)) : Sem (List (Nat × Nat))).run P w = .ok (l.map fun f => (f.offset, ((P.info? f.type).map (·.size)).getD 0)) w := by
      intro l
      induction l with
      | nil => intro _; rfl
      | cons f r ih =>
        intro h
        obtain ⟨inf, hi⟩ := h f List.mem_cons_self
        have h1 : (do pure (f.offset, ← sizeOf f.type) : Sem (Nat × Nat)).run P w = .ok (f.offset, inf.size) w := by simp [sizeOf, typeInfo, hi]
        rw [List.mapM_cons, Sem.run_bind, h1, Result.andThen_ok, Sem.run_bind, ih (fun f hf => h f (List.mem_cons_of_mem _ hf)), Result.andThen_ok]
        simp [hi]
    show (Bind.bind (fs.toList.mapM fun f => do pure (f.offset, ← sizeOf f.type)) (fun a => pure a.toArray) : Sem (Array (Nat × Nat))).run P w = _
    rw [Sem.run_bind, key fs.toList (fun f hf => k2 f (by simpa using hf))]
    rfl
  have hz : (zeroValue et).run P w = .ok (.agg zs.toArray) w := by simp [zeroValue, typeInfo, h1, h2]
  unfold Instr.build
  simp only [Sem.run_bind, hz, Result.andThen_ok, run_underlying k1, hm]
  rw [show (parts.map fun p => (p.1, ρ p.2)).toList = parts.toList.map fun p => (p.1, ρ p.2) by simp]
  simp only [Value.cells]
  rw [q1]
  rfl
theorem bu {pl : List (Nat × Nat)} {lz : List T} {parts : Array (Nat × Operand)} (hS : StructT P et lz pl) (hp : puts g pl lz parts.toList = some l') (hn : J P ops fin r (OpS.p (T.st l') :: H) (putg t (T.st l') g) E) (hg : GuardIs ops g ⟨t, .build et parts, ty, ps, af, gd⟩ true := by exact gd0) : J P ops fin (⟨t, .build et parts, ty, ps, af, gd⟩ :: r) H g E :=
  j_val hg (ok_pure fun ρ β u w F hs he hH => by
    obtain ⟨cs, h1, h2⟩ := run_build (w := w) (ρ := ρ) hS hp (fun p hp Y hY => he p.2 (by simp only [Op.operands]; exact by simpa using ⟨p.1, by simpa using hp⟩) Y hY)
    exact ⟨_, by simp only [execOp, Sem.run_bind, h1, Result.andThen_ok, Sem.run_pure], cs, rfl, h2⟩) hn
theorem ci {kk : IntKind} {a b : Int} (h : a = b) : (T.c (.int kk a)).le (T.c (.int kk b)) := .of (by rw [h])
/-! whole numbers of the machine -/
def rgK : IntKind → Option (Int × Int)
  | .i64 => some (-9223372036854775808, 9223372036854775807)
  | .u64 => some (0, 18446744073709551615)
  | .u32 => some (0, 4294967295)
  | _ => none
theorem rgK_wrap {kk : IntKind} {z lo hi : Int} (h : rgK kk = some (lo, hi)) (hz : lo ≤ z ∧ z ≤ hi) : kk.wrap z = z := by
  cases kk <;> cases h
  · exact IntWalk.i64_in _ hz
  · exact IntWalk.u32_in _ hz
  · exact IntWalk.u64_in _ hz
theorem beq_dec (a b : Int) : (a == b) = decide (a = b) := by rw [Bool.eq_iff_iff]; simp
theorem bne_dec (a b : Int) : (a != b) = !decide (a = b) := by rw [Bool.eq_iff_iff]; simp
/-- An operation on known things. -/
theorem bop {op : BinOp} {t1 t2 : TypeId} {a b c : Value} (hX : envl g x = some (T.c a)) (hY : envl g y = some (T.c b)) (hr : ∀ (ρ : Operand → Value) w, ρ x = a → ρ y = b → (execOp ρ ⟨t, .binOp op t1 x y t2, ty, ps, af, gd⟩).run P w = .ok (.value c) w) (hn : J P ops fin r (OpS.p (T.c c) :: H) (putg t (T.c c) g) E) (hg : GuardIs ops g ⟨t, .binOp op t1 x y t2, ty, ps, af, gd⟩ true := by exact gd0) : J P ops fin (⟨t, .binOp op t1 x y t2, ty, ps, af, gd⟩ :: r) H g E :=
  j_val hg (ok_pure fun ρ β u w F hs he hH => ⟨c, hr ρ w (he x (by simp [Op.operands]) _ hX) (he y (by simp [Op.operands]) _ hY), rfl⟩) hn
theorem uop {op : UnOp} {t1 : TypeId} {a c : Value} (hX : envl g x = some (T.c a)) (hr : ∀ (ρ : Operand → Value) w, ρ x = a → (execOp ρ ⟨t, .unOp op t1 x, ty, ps, af, gd⟩).run P w = .ok (.value c) w) (hn : J P ops fin r (OpS.p (T.c c) :: H) (putg t (T.c c) g) E) (hg : GuardIs ops g ⟨t, .unOp op t1 x, ty, ps, af, gd⟩ true := by exact gd0) : J P ops fin (⟨t, .unOp op t1 x, ty, ps, af, gd⟩ :: r) H g E :=
  j_val hg (ok_pure fun ρ β u w F hs he hH => ⟨c, hr ρ w (he x (by simp [Op.operands]) _ hX), rfl⟩) hn
theorem ad {t1 t2 : TypeId} {kk : IntKind} {a b lo hi : Int} (z : Int) (hX : envl g x = some (T.c (.int kk a))) (hY : envl g y = some (T.c (.int kk b))) (hk : rgK kk = some (lo, hi)) (hz : a + b = z ∧ lo ≤ z ∧ z ≤ hi) (hn : J P ops fin r (OpS.p (T.c (.int kk z)) :: H) (putg t (T.c (.int kk z)) g) E) (hg : GuardIs ops g ⟨t, .binOp .add t1 x y t2, ty, ps, af, gd⟩ true := by exact gd0) : J P ops fin (⟨t, .binOp .add t1 x y t2, ty, ps, af, gd⟩ :: r) H g E :=
  bop hX hY (fun ρ w h1 h2 => by simp [execOp, h1, h2, eqGuard, binOp, Op.intArith, hz.1, rgK_wrap hk hz.2]) hn hg
theorem sb {t1 t2 : TypeId} {kk : IntKind} {a b lo hi : Int} (z : Int) (hX : envl g x = some (T.c (.int kk a))) (hY : envl g y = some (T.c (.int kk b))) (hk : rgK kk = some (lo, hi)) (hz : a - b = z ∧ lo ≤ z ∧ z ≤ hi) (hn : J P ops fin r (OpS.p (T.c (.int kk z)) :: H) (putg t (T.c (.int kk z)) g) E) (hg : GuardIs ops g ⟨t, .binOp .sub t1 x y t2, ty, ps, af, gd⟩ true := by exact gd0) : J P ops fin (⟨t, .binOp .sub t1 x y t2, ty, ps, af, gd⟩ :: r) H g E :=
  bop hX hY (fun ρ w h1 h2 => by simp [execOp, h1, h2, eqGuard, binOp, Op.intArith, hz.1, rgK_wrap hk hz.2]) hn hg
theorem ml {t1 t2 : TypeId} {kk : IntKind} {a b lo hi : Int} (z : Int) (hX : envl g x = some (T.c (.int kk a))) (hY : envl g y = some (T.c (.int kk b))) (hk : rgK kk = some (lo, hi)) (hz : a * b = z ∧ lo ≤ z ∧ z ≤ hi) (hn : J P ops fin r (OpS.p (T.c (.int kk z)) :: H) (putg t (T.c (.int kk z)) g) E) (hg : GuardIs ops g ⟨t, .binOp .mul t1 x y t2, ty, ps, af, gd⟩ true := by exact gd0) : J P ops fin (⟨t, .binOp .mul t1 x y t2, ty, ps, af, gd⟩ :: r) H g E :=
  bop hX hY (fun ρ w h1 h2 => by simp [execOp, h1, h2, eqGuard, binOp, Op.intArith, hz.1, rgK_wrap hk hz.2]) hn hg
theorem clt {t1 t2 : TypeId} {kk : IntKind} {a b : Int} {q : Bool} (hX : envl g x = some (T.c (.int kk a))) (hY : envl g y = some (T.c (.int kk b))) (hq : decide (a < b) = q) (hn : J P ops fin r (OpS.p (T.c (.bool q)) :: H) (putg t (T.c (.bool q)) g) E) (hg : GuardIs ops g ⟨t, .binOp .lss t1 x y t2, ty, ps, af, gd⟩ true := by exact gd0) : J P ops fin (⟨t, .binOp .lss t1 x y t2, ty, ps, af, gd⟩ :: r) H g E :=
  bop hX hY (fun ρ w h1 h2 => by simp [execOp, h1, h2, eqGuard, binOp, Op.intCmp, Op.equal, beq_dec, bne_dec, ← hq]) hn hg
theorem cle {t1 t2 : TypeId} {kk : IntKind} {a b : Int} {q : Bool} (hX : envl g x = some (T.c (.int kk a))) (hY : envl g y = some (T.c (.int kk b))) (hq : decide (a ≤ b) = q) (hn : J P ops fin r (OpS.p (T.c (.bool q)) :: H) (putg t (T.c (.bool q)) g) E) (hg : GuardIs ops g ⟨t, .binOp .leq t1 x y t2, ty, ps, af, gd⟩ true := by exact gd0) : J P ops fin (⟨t, .binOp .leq t1 x y t2, ty, ps, af, gd⟩ :: r) H g E :=
  bop hX hY (fun ρ w h1 h2 => by simp [execOp, h1, h2, eqGuard, binOp, Op.intCmp, Op.equal, beq_dec, bne_dec, ← hq]) hn hg
theorem cgt {t1 t2 : TypeId} {kk : IntKind} {a b : Int} {q : Bool} (hX : envl g x = some (T.c (.int kk a))) (hY : envl g y = some (T.c (.int kk b))) (hq : decide (b < a) = q) (hn : J P ops fin r (OpS.p (T.c (.bool q)) :: H) (putg t (T.c (.bool q)) g) E) (hg : GuardIs ops g ⟨t, .binOp .gtr t1 x y t2, ty, ps, af, gd⟩ true := by exact gd0) : J P ops fin (⟨t, .binOp .gtr t1 x y t2, ty, ps, af, gd⟩ :: r) H g E :=
  bop hX hY (fun ρ w h1 h2 => by simp [execOp, h1, h2, eqGuard, binOp, Op.intCmp, Op.equal, beq_dec, bne_dec, ← hq]) hn hg
theorem cge {t1 t2 : TypeId} {kk : IntKind} {a b : Int} {q : Bool} (hX : envl g x = some (T.c (.int kk a))) (hY : envl g y = some (T.c (.int kk b))) (hq : decide (b ≤ a) = q) (hn : J P ops fin r (OpS.p (T.c (.bool q)) :: H) (putg t (T.c (.bool q)) g) E) (hg : GuardIs ops g ⟨t, .binOp .geq t1 x y t2, ty, ps, af, gd⟩ true := by exact gd0) : J P ops fin (⟨t, .binOp .geq t1 x y t2, ty, ps, af, gd⟩ :: r) H g E :=
  bop hX hY (fun ρ w h1 h2 => by simp [execOp, h1, h2, eqGuard, binOp, Op.intCmp, Op.equal, beq_dec, bne_dec, ← hq]) hn hg
theorem ceq {t1 t2 : TypeId} {kk : IntKind} {a b : Int} {q : Bool} (hX : envl g x = some (T.c (.int kk a))) (hY : envl g y = some (T.c (.int kk b))) (hq : decide (a = b) = q) (hn : J P ops fin r (OpS.p (T.c (.bool q)) :: H) (putg t (T.c (.bool q)) g) E) (hg : GuardIs ops g ⟨t, .binOp .eql t1 x y t2, ty, ps, af, gd⟩ true := by exact gd0) : J P ops fin (⟨t, .binOp .eql t1 x y t2, ty, ps, af, gd⟩ :: r) H g E :=
  bop hX hY (fun ρ w h1 h2 => by simp [execOp, h1, h2, eqGuard, binOp, Op.intCmp, Op.equal, beq_dec, bne_dec, ← hq]) hn hg
theorem cne {t1 t2 : TypeId} {kk : IntKind} {a b : Int} {q : Bool} (hX : envl g x = some (T.c (.int kk a))) (hY : envl g y = some (T.c (.int kk b))) (hq : decide (a ≠ b) = q) (hn : J P ops fin r (OpS.p (T.c (.bool q)) :: H) (putg t (T.c (.bool q)) g) E) (hg : GuardIs ops g ⟨t, .binOp .neq t1 x y t2, ty, ps, af, gd⟩ true := by exact gd0) : J P ops fin (⟨t, .binOp .neq t1 x y t2, ty, ps, af, gd⟩ :: r) H g E :=
  bop hX hY (fun ρ w h1 h2 => by simp [execOp, h1, h2, eqGuard, binOp, Op.intCmp, Op.equal, beq_dec, bne_dec, ← hq]) hn hg
theorem nt {t1 : TypeId} {a : Bool} (hX : envl g x = some (T.c (.bool a))) (q : Bool) (hq : (!a) = q) (hn : J P ops fin r (OpS.p (T.c (.bool q)) :: H) (putg t (T.c (.bool q)) g) E) (hg : GuardIs ops g ⟨t, .unOp .not t1 x, ty, ps, af, gd⟩ true := by exact gd0) : J P ops fin (⟨t, .unOp .not t1 x, ty, ps, af, gd⟩ :: r) H g E :=
  uop hX (fun ρ w h1 => by simp [execOp, h1, Op.unary, hq]) hn hg
theorem ng {t1 : TypeId} {kk : IntKind} {a lo hi : Int} (z : Int) (hX : envl g x = some (T.c (.int kk a))) (hk : rgK kk = some (lo, hi)) (hz : 0 - a = z ∧ lo ≤ z ∧ z ≤ hi) (hn : J P ops fin r (OpS.p (T.c (.int kk z)) :: H) (putg t (T.c (.int kk z)) g) E) (hg : GuardIs ops g ⟨t, .unOp .neg t1 x, ty, ps, af, gd⟩ true := by exact gd0) : J P ops fin (⟨t, .unOp .neg t1 x, ty, ps, af, gd⟩ :: r) H g E :=
  uop hX (fun ρ w h1 => by simp only [execOp, h1, Op.unary, Op.intArith, hz.1, rgK_wrap hk hz.2]; rfl) hn hg
/-- pick. -/
theorem pk {z : Operand} {a : Bool} (hX : envl g z = some (T.c (.bool a))) (hY : envl g (if a then x else y) = some X) (hn : J P ops fin r (OpS.p X :: H) (putg t X g) E) (hg : GuardIs ops g ⟨t, .pick z x y, ty, ps, af, gd⟩ true := by exact gd0) : J P ops fin (⟨t, .pick z x y, ty, ps, af, gd⟩ :: r) H g E :=
  j_val hg (ok_pure fun ρ β u w F hs he hH => by
    have h1 : ρ z = .bool a := he z (by simp [Op.operands]) _ hX
    refine ⟨ρ (if a then x else y), by cases a <;> simp [execOp, h1, asBool], he _ (by cases a <;> simp [Op.operands]) X hY⟩) hn
end
end Go.Proofs.Ytlmiadjogdfjkaa.V
