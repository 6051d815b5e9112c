/- A logic of calls: structs, boxes of one's own, plain operations. -/
import Derived.Test.YtlmiadjogdfjkaaV3
import Derived.IntWalk
set_option linter.unusedVariables false
set_option linter.unusedSimpArgs false
namespace Go.Proofs.Ytlmiadjogdfjkaa.V
open Go.RowKit

abbrev pt (b o : Nat) : Value := .pointer (some ⟨b, o, none⟩)
theorem add_none (p o j : Nat) : (⟨p, o, none⟩ : Addr).add j = ⟨p, o + j, none⟩ := by unfold Addr.add; split <;> simp_all
/-- Cells that say these things, one behind another. -/
def Cells (β : Env) (u : World) : List T → List Value → Prop
  | [], cs => cs = []
  | X :: r, cs => ∃ v rest, X.sz ≠ 0 ∧ X.rep β u v ∧ cs = v.cells.toList ++ rest ∧ Cells β u r rest
theorem Cells.mono {β : Env} {u u' : World} (hs : Sub u u') : ∀ {l : List T} {cs : List Value}, Cells β u l cs → Cells β u' l cs
  | [], _, h => h
  | X :: r, cs, ⟨v, rest, h0, h1, e, h2⟩ => ⟨v, rest, h0, X.mono hs h1, e, Cells.mono hs h2⟩
theorem Cells.ext {β β' : Env} {u : World} : ∀ {l : List T} {cs : List Value}, (∀ e ∈ l.flatMap (·.ns), β' e = β e) → Cells β u l cs → Cells β' u l cs
  | [], _, _, h => h
  | X :: r, cs, hn, ⟨v, rest, h0, h1, e, h2⟩ => ⟨v, rest, h0, X.ext (fun e he => hn e (by simp only [List.flatMap_cons, List.mem_append]; exact .inl he)) h1, e, Cells.ext (fun e he => hn e (by simp only [List.flatMap_cons, List.mem_append]; exact .inr he)) h2⟩
def szs : List T → Nat
  | [] => 0
  | X :: r => X.sz + szs r
theorem Cells.flat {β : Env} {u : World} : ∀ {l : List T} {cs : List Value}, Cells β u l cs → cs.length = szs l ∧ cs.all Value.oneCell' = true
  | [], cs, h => by rw [show cs = [] from h]; exact ⟨rfl, rfl⟩
  | X :: r, cs, ⟨v, rest, h0, h1, e, h2⟩ => by
    obtain ⟨⟨k1, k2⟩, _⟩ := X.shp h1 h0
    obtain ⟨l1, l2⟩ := Cells.flat h2
    subst e
    exact ⟨by rw [List.length_append, k1, l1]; rfl, by rw [List.all_append, k2, l2]; rfl⟩
/-- A struct. -/
def T.st (l : List T) : T := ⟨l.flatMap (·.ns), szs l, true, fun β u v => ∃ cs : List Value, v = .agg cs.toArray ∧ Cells β u l cs, fun ⟨cs, e, h⟩ _ => by
    subst e
    obtain ⟨h1, h2⟩ := h.flat
    exact ⟨⟨by simpa [Value.cells] using h1, by simpa [Value.cells] using h2⟩, by simp [asVal, Value.cells]⟩,
  fun hs ⟨cs, e, h⟩ => ⟨cs, e, h.mono hs⟩, fun hn ⟨cs, e, h⟩ => ⟨cs, e, h.ext hn⟩⟩
def skip : List T → Nat → Option (List T)
  | [], 0 => some []
  | [], _ + 1 => none
  | X :: r, 0 => some (X :: r)
  | X :: r, n + 1 => bif Nat.ble X.sz (n + 1) then skip r (n + 1 - X.sz) else none
def takeC : List T → Nat → Option (List T)
  | [], 0 => some []
  | [], _ + 1 => none
  | _ :: _, 0 => some []
  | X :: r, n + 1 => bif Nat.ble X.sz (n + 1) then (match takeC r (n + 1 - X.sz) with | some l => some (X :: l) | none => none) else none
def oneT (b : Bool) : Option (List T) → Option T
  | some [X] => bif X.ag == b then some X else bif b then some (T.st [X]) else none
  | some l => bif b then some (T.st l) else none
  | none => none
/-- A field: so many cells from a place on. -/
def fieldT (b : Bool) (l : List T) (off m : Nat) : Option T := match skip l off with
  | some r => oneT b (takeC r m)
  | none => none
def putC : List T → Nat → T → Option (List T)
  | [], _, _ => none
  | Y :: r, 0, X => match skip (Y :: r) X.sz with | some s => some (X :: s) | none => none
  | Y :: r, n + 1, X => bif Nat.ble Y.sz (n + 1) then (match putC r (n + 1 - Y.sz) X with | some s => some (Y :: s) | none => none) else none
theorem drop_behind {a b : List Value} {m n : Nat} (h : a.length = m) (hn : m ≤ n) : (a ++ b).drop n = b.drop (n - m) := by rw [List.drop_append, h, List.drop_eq_nil_of_le (by omega)]; rfl
theorem Cells.skip {β : Env} {u : World} : ∀ {l r : List T} {off : Nat} {cs : List Value}, Cells β u l cs → V.skip l off = some r → off ≤ cs.length ∧ Cells β u r (cs.drop off)
  | [], r, 0, cs, h, hs => by cases hs; exact ⟨Nat.zero_le _, by rw [show cs = [] from h]; rfl⟩
  | X :: l, r, 0, cs, h, hs => by cases hs; exact ⟨Nat.zero_le _, h⟩
  | X :: l, r, n + 1, cs, ⟨v, rest, h0, h1, e, h2⟩, hs => by
    unfold V.skip at hs
    cases hb : Nat.ble X.sz (n + 1) with
    | false => rw [hb] at hs; cases hs
    | true =>
      rw [hb] at hs
      have hle := Nat.le_of_ble_eq_true hb
      obtain ⟨k1, k2⟩ := Cells.skip h2 hs
      have hl := (X.shp h1 h0).1.1
      subst e
      refine ⟨by rw [List.length_append, hl]; omega, ?_⟩
      rw [drop_behind hl hle]
      exact k2
  | [], _, _ + 1, _, _, hs => by cases hs
theorem Cells.take {β : Env} {u : World} : ∀ {l r : List T} {m : Nat} {cs : List Value}, Cells β u l cs → takeC l m = some r → m ≤ cs.length ∧ Cells β u r (cs.take m)
  | [], r, 0, cs, h, hs => by cases hs; exact ⟨Nat.zero_le _, rfl⟩
  | X :: l, r, 0, cs, h, hs => by cases hs; exact ⟨Nat.zero_le _, rfl⟩
  | X :: l, r, n + 1, cs, ⟨v, rest, h0, h1, e, h2⟩, hs => by
    unfold takeC at hs
    cases hb : Nat.ble X.sz (n + 1) with
    | false => rw [hb] at hs; cases hs
    | true =>
      rw [hb] at hs
      have hle := Nat.le_of_ble_eq_true hb
      cases ht : takeC l (n + 1 - X.sz) with
      | none => rw [ht] at hs; cases hs
      | some s =>
        rw [ht] at hs
        cases hs
        obtain ⟨k1, k2⟩ := Cells.take h2 ht
        have hl := (X.shp h1 h0).1.1
        subst e
        refine ⟨by rw [List.length_append, hl]; omega, v, rest.take (n + 1 - X.sz), h0, h1, ?_, k2⟩
        rw [List.take_append, hl, List.take_of_length_le (by omega)]
  | [], _, _ + 1, _, _, hs => by cases hs
theorem Cells.field {β : Env} {u : World} {b : Bool} {l : List T} {off m : Nat} {X : T} {cs : List Value} (h : Cells β u l cs) (hX : fieldT b l off m = some X) : off + m ≤ cs.length ∧ X.rep β u (asVal b ((cs.drop off).take m)) := by
  unfold fieldT at hX
  cases hs : V.skip l off with
  | none => rw [hs] at hX; cases hX
  | some r =>
    rw [hs] at hX
    obtain ⟨h1, h2⟩ := h.skip hs
    simp only at hX
    cases ht : takeC r m with
    | none => rw [ht] at hX; cases hX
    | some s =>
      rw [ht] at hX
      obtain ⟨h3, h4⟩ := h2.take ht
      rw [List.length_drop] at h3
      refine ⟨by omega, ?_⟩
      have many : (bif b then some (T.st s) else none) = some X → X.rep β u (asVal b ((cs.drop off).take m)) := fun hb => by
        cases b with
        | false => cases hb
        | true => cases hb; exact ⟨_, rfl, h4⟩
      match s, hX, h4, many with
      | [Y], hX, ⟨v, rest, k0, k1, ke, k2⟩, many =>
        have hX : (bif Y.ag == b then some Y else bif b then some (T.st [Y]) else none) = some X := hX
        cases hy : Y.ag == b with
        | true =>
          rw [hy] at hX
          cases hX
          have hyb : X.ag = b := by simpa using hy
          rw [ke, show rest = [] from k2, List.append_nil, ← hyb, ← (X.shp k1 k0).2]
          exact k1
        | false => rw [hy] at hX; exact many hX
      | [], hX, _, many => exact many hX
      | _ :: _ :: _, hX, _, many => exact many hX
def patch (cs : List Value) (off : Nat) (vs : List Value) : List Value := cs.take off ++ vs ++ cs.drop (off + vs.length)
theorem Cells.put {β : Env} {u : World} {X : T} {v : Value} (hv : X.rep β u v) (h0 : X.sz ≠ 0) : ∀ {l l' : List T} {off : Nat} {cs : List Value}, Cells β u l cs → putC l off X = some l' → off + X.sz ≤ cs.length ∧ Cells β u l' (patch cs off v.cells.toList)
  | [], _, _, _, _, hp => by cases hp
  | Y :: r, l', 0, cs, h, hp => by
    unfold putC at hp
    have hl := (X.shp hv h0).1.1
    cases hs : V.skip (Y :: r) X.sz with
    | none => rw [hs] at hp; cases hp
    | some s =>
      rw [hs] at hp
      cases hp
      obtain ⟨k1, k2⟩ := h.skip hs
      refine ⟨by omega, v, cs.drop X.sz, h0, hv, ?_, k2⟩
      unfold patch
      rw [List.take_zero, List.nil_append, Nat.zero_add, hl]
  | Y :: r, l', n + 1, cs, ⟨y, rest, k0, k1, e, k2⟩, hp => by
    unfold putC at hp
    have hl := (X.shp hv h0).1.1
    cases hb : Nat.ble Y.sz (n + 1) with
    | false => rw [hb] at hp; cases hp
    | true =>
      rw [hb] at hp
      have hle := Nat.le_of_ble_eq_true hb
      cases hs : putC r (n + 1 - Y.sz) X with
      | none => rw [hs] at hp; cases hp
      | some s =>
        rw [hs] at hp
        cases hp
        obtain ⟨m1, m2⟩ := Cells.put hv h0 k2 hs
        have hy := (Y.shp k1 k0).1.1
        subst e
        refine ⟨by rw [List.length_append, hy]; omega, y, _, k0, k1, ?_, m2⟩
        unfold patch
        rw [List.take_append, hy, List.take_of_length_le (by omega), List.drop_append, hy, List.drop_eq_nil_of_le (by omega), List.nil_append, List.append_assoc, List.append_assoc, List.append_assoc]
        congr 4
        omega

/-- A box of one's own. -/
def Ent.box (ty : TypeId) (l : List T) : Ent := ⟨l.flatMap (·.ns), fun β u w v F => ∃ b cs, v = pt b 0 ∧ (∀ k, F k ↔ k = b) ∧ w.heap[b]? = some (.cells (List.toArray cs) ty (0, 0)) ∧ Cells β u l cs,
  fun hs ⟨b, cs, h1, h2, h3, h4⟩ => ⟨b, cs, h1, h2, h3, h4.mono hs⟩, fun hn ⟨b, cs, h1, h2, h3, h4⟩ => ⟨b, cs, h1, h2, h3, h4.ext hn⟩, fun hl ⟨b, cs, h1, h2, h3, h4⟩ => ⟨b, cs, h1, h2, by rw [hl b ((h2 b).2 rfl)]; exact h3, h4⟩⟩
/-- A place in it. -/
def T.p (e off : Nat) : T := ⟨[e], 1, false, fun β u v => ∃ b, β e = pt b 0 ∧ v = pt b off, fun ⟨b, _, h⟩ _ => by subst h; exact ⟨⟨rfl, rfl⟩, rfl⟩, fun _ h => h, fun hn ⟨b, h1, h2⟩ => ⟨b, by rw [hn _ List.mem_cons_self]; exact h1, h2⟩⟩
theorem cell_none {w : World} {a : Addr} (h : w.heap.size ≤ a.block) : w.cell? a = none := by
  unfold World.cell?
  rw [Array.getElem?_eq_none h]
theorem sub_lt {u w : World} (h : Sub u w) {p : Addr} {v : Value} (hv : u.cell? p = some v) : p.block < w.heap.size := by
  apply Nat.lt_of_not_le
  intro hle
  have := h p v hv
  rw [cell_none hle] at this
  cases this
theorem dead_new {u w : World} (h : Sub u w) {p : Nat} (hp : w.heap.size ≤ p) : Dead u p := fun a ha => by
  cases hc : u.cell? a with
  | none => rfl
  | some v => have := sub_lt h hc; omega
theorem heap_lt {w : World} {g : Nat} {o : Obj} (h : w.heap[g]? = some o) : g < w.heap.size := (Array.getElem?_eq_some_iff.1 h).1
theorem tr_alloc {C : Nat → Prop} {u w : World} (hs : Sub u w) (o : Obj) : Tr C u w u (w.alloc o) :=
  ⟨rfl, rfl, rfl, by simp, fun k hk _ => Below.heap_alloc _ _ _ hk, Sub.refl _, fun a v hv => by rw [World.cell?_alloc_lt _ _ _ (sub_lt hs hv)]; exact hs a v hv, fun _ _ _ h => h⟩
def setE (β : Env) (e : Nat) (v : Value) : Env := fun f => if f = e then v else β f
theorem setE_same (β : Env) (e : Nat) (v : Value) : setE β e v e = v := if_pos rfl
theorem setE_ne (β : Env) {e f : Nat} (v : Value) (h : f ≠ e) : setE β e v f = β f := if_neg h
theorem lk1 {e f : Nat} {X Y : Ent} (h : lk [(e, X)] f = some Y) : f = e ∧ Y = X := by
  rw [lk_cons] at h
  split at h
  · rename_i he; cases h; exact ⟨he.symm, rfl⟩
  · cases h
theorem lk1_same {e : Nat} {X : Ent} : lk [(e, X)] e = some X := by rw [lk_cons, if_pos rfl]
theorem hold1 {β : Env} {u w : World} {F : FP} {e : Nat} {X : Ent} (h : X.hold β u w (β e) (F e)) (hd : ∀ k, F e k → Dead u k ∧ k < w.heap.size) : Hold β u w F (lk [(e, X)]) :=
  ⟨fun f Y h' => by obtain ⟨rfl, rfl⟩ := lk1 h'; exact h, fun f Y k h' hk => by obtain ⟨rfl, rfl⟩ := lk1 h'; exact hd k hk, fun f f' Y Z k h' h2 hne => by obtain ⟨rfl, _⟩ := lk1 h'; obtain ⟨rfl, _⟩ := lk1 h2; exact absurd rfl hne⟩
/-- A new box. -/
theorem after_box {β : Env} {u w : World} {F : FP} {C : List Nat} {e : Nat} {ty : TypeId} {l : List T} {cs : List Value} (hs : Sub u w) (hc : Cells β u l cs) (hn : (l.flatMap (·.ns)).contains e = false) :
    After β u w F C (lk [(e, Ent.box ty l)]) [e] (T.p e 0) (pt w.heap.size 0) (w.alloc (.cells cs.toArray ty (0, 0))) := by
  have hb : ∀ f, f ∉ [e] → setE β e (pt w.heap.size 0) f = β f := fun f hf => setE_ne β _ (by simpa using hf)
  refine ⟨u, setE β e (pt w.heap.size 0), fun _ k => k = w.heap.size, hb, tr_alloc hs _, hold1 ?_ (fun k hk => ?_), fun f X k h hk => .inr (by rw [show k = _ from hk]; exact Nat.le_refl _), ⟨w.heap.size, setE_same _ _ _, rfl⟩⟩
  · refine ⟨w.heap.size, cs, setE_same _ _ _, fun k => Iff.rfl, ?_, hc.ext (fun f hf => hb f (fun he => ?_))⟩
    · show (w.heap.push _)[w.heap.size]? = _
      rw [Array.getElem?_push, if_pos rfl]
    · have : f = e := by simpa using he
      subst this
      simp only [List.contains_eq_mem, decide_eq_false_iff_not] at hn
      exact hn hf
  · rw [show k = _ from hk]
    exact ⟨dead_new hs (Nat.le_refl _), by simp⟩

/-! ### types -/
def aggOf : TypeDesc → Bool
  | .struct _ | .array _ _ => true
  | _ => false
/-- A type: of several cells? of how many? -/
def Ty (P : Program) (ty : TypeId) (b : Bool) (m : Nat) : Prop := (P.underlying ty).map aggOf = some b ∧ (P.info? ty).map (·.size) = some m
theorem run_isAgg {P : Program} {ty : TypeId} {b : Bool} {m : Nat} (h : Ty P ty b m) (w : World) : (isAgg ty).run P w = .ok b w := by
  obtain ⟨d, h1, h2⟩ := Option.map_eq_some_iff.1 h.1
  unfold isAgg
  rw [Sem.run_bind, run_underlying h1 w]
  subst h2
  cases d <;> simp [aggOf]
theorem run_sizeOf {P : Program} {ty : TypeId} {b : Bool} {m : Nat} (h : Ty P ty b m) (w : World) : (sizeOf ty).run P w = .ok m w := by
  obtain ⟨d, h1, h2⟩ := Option.map_eq_some_iff.1 h.2
  simp [sizeOf, typeInfo, h1, h2]
theorem run_loadAt {P : Program} {ty : TypeId} {b : Bool} {ad : Addr} {vs : List Value} {w : World} (h : Ty P ty b vs.length) (hc : ∀ j v, vs[j]? = some v → w.cell? (ad.add j) = some v) (h1 : b = false → vs.length = 1) :
    (loadVar ty ad).run P w = .ok (asVal b vs) w := by
  have hl := run_loadCells_list (P := P) w ad vs hc
  unfold loadVar
  rw [Sem.run_bind, run_isAgg h, Result.andThen_ok]
  cases b with
  | true => simp [run_sizeOf h, hl, asVal]
  | false =>
    have h2 := h1 rfl
    match vs, h2, hc with
    | [v], _, hc =>
      have := hc 0 v (by simp)
      have e : ad.add 0 = ad := by unfold Addr.add; split <;> simp_all
      rw [e] at this
      simp [asVal, this]
theorem box_cells {w : World} {p o : Nat} {cs : List Value} {t : TypeId} (hb : w.heap[p]? = some (.cells cs.toArray t (0, 0))) (m : Nat) : ∀ j v, ((cs.drop o).take m)[j]? = some v → w.cell? ((⟨p, o, none⟩ : Addr).add j) = some v := fun j v hv => by
  rw [add_none, cell_of_row w p (o + j) _ t _ hb]
  simp only [List.getElem?_take, List.getElem?_drop] at hv
  split at hv
  · simpa using hv
  · cases hv
theorem asVal_len {b : Bool} {cs : List Value} {X : T} {β : Env} {u : World} (h : X.rep β u (asVal b cs)) (h0 : X.sz ≠ 0) (hb : X.ag = b) : b = false → cs.length ≠ 0 → True := fun _ _ => trivial
theorem ty_one {P : Program} {ty : TypeId} {b : Bool} {m : Nat} (hT : Ty P ty b m) (h1 : (b || m == 1) = true) : b = false → m = 1 := fun e => by subst e; simpa using h1

/-! ### steps -/
section
variable {P : Program} {ops : Array Oper} {fin : List OpS → List (Nat × T) → List (Nat × Option Ent) → Prop} {r : List Oper} {H : List OpS} {g : List (Nat × T)} {E : List (Nat × Option Ent)} {o : Oper}
def J1 (P : Program) (ops : Array Oper) (fin : List OpS → List (Nat × T) → List (Nat × Option Ent) → Prop) (r : List Oper) (H : List OpS) (g : List (Nat × T)) (E : List (Nat × Option Ent)) (d : Option Nat) (k : OpS) : Prop := J P ops fin r (k :: H) (putg d k.out g) E
theorem upd_cons {e : Nat} {X : Ent} {us cs nw : List Nat} {R : T} (hc : ∀ c ∈ cs, c = e) (f : Nat) : lkE ((e, some X) :: E) f = (OpS.mk us cs [(e, X)] nw R).upd f (lkE E f) := by
  unfold lkE OpS.upd
  rw [lk_cons, lk_cons]
  by_cases h : e = f
  · rw [if_pos h, if_pos h]; rfl
  · rw [if_neg h, if_neg h]
    show _ = if cs.contains f then none else _
    rw [if_neg]
    simp only [List.contains_eq_mem, decide_eq_true_eq]
    exact fun hm => h (hc f hm).symm
/-- New memory. -/
theorem j_new {e : Nat} {X : Ent} {R : T} (hg : GuardIs ops g o true) (h : OpOk P o (envl g) (fun _ => none) ⟨[], [], [(e, X)], [e], R⟩) (hn : J P ops fin r (⟨[], [], [(e, X)], [e], R⟩ :: H) (putg o.dst R g) ((e, some X) :: E)) : J P ops fin (o :: r) H g E :=
  ⟨⟨[], [], [(e, X)], [e], R⟩, (e, some X) :: E, .inl ⟨hg, fun e he => absurd he List.not_mem_nil, by
    have : (fun f => if f ∈ (OpS.mk [] [] [(e, X)] [e] R).uses ++ (OpS.mk [] [] [(e, X)] [e] R).cons then lkE E f else none) = fun _ => none := funext fun f => if_neg List.not_mem_nil
    rw [this]; exact h⟩, upd_cons (fun c hc => absurd hc List.not_mem_nil), hn⟩
/-- Memory is looked at. -/
theorem j_use {e : Nat} {X : Ent} {R : T} (hX : lkE E e = some X) (hg : GuardIs ops g o true) (h : OpOk P o (envl g) (lk [(e, X)]) ⟨[e], [], [], [], R⟩) (hn : J P ops fin r (⟨[e], [], [], [], R⟩ :: H) (putg o.dst R g) E) : J P ops fin (o :: r) H g E :=
  ⟨⟨[e], [], [], [], R⟩, E, .inl ⟨hg, fun e he => absurd he List.not_mem_nil, by
    have : (fun f => if f ∈ (OpS.mk [e] [] [] [] R).uses ++ (OpS.mk [e] [] [] [] R).cons then lkE E f else none) = lk [(e, X)] := funext fun f => by
      rw [lk_cons]
      by_cases h : e = f
      · subst h; rw [if_pos (by simp), if_pos rfl, hX]
      · rw [if_neg (by simp; exact fun h' => h h'.symm), if_neg h]; rfl
    rw [this]; exact h⟩, fun f => rfl, hn⟩
/-- Memory is written to. -/
theorem j_set {e : Nat} {X Y : Ent} {R : T} (hX : lkE E e = some X) (hg : GuardIs ops g o true) (h : OpOk P o (envl g) (lk [(e, X)]) ⟨[], [e], [(e, Y)], [], R⟩) (hn : J P ops fin r (⟨[], [e], [(e, Y)], [], R⟩ :: H) (putg o.dst R g) ((e, some Y) :: E)) : J P ops fin (o :: r) H g E :=
  ⟨⟨[], [e], [(e, Y)], [], R⟩, (e, some Y) :: E, .inl ⟨hg, fun f he => ⟨X, by rw [show f = e from by simpa using he]; exact hX⟩, by
    have : (fun f => if f ∈ (OpS.mk [] [e] [(e, Y)] [] R).uses ++ (OpS.mk [] [e] [(e, Y)] [] R).cons then lkE E f else none) = lk [(e, X)] := funext fun f => by
      rw [lk_cons]
      by_cases h : e = f
      · subst h; rw [if_pos (by simp), if_pos rfl, hX]
      · rw [if_neg (by simp; exact fun h' => h h'.symm), if_neg h]; rfl
    rw [this]; exact h⟩, upd_cons (fun c hc => by simpa using hc), hn⟩
variable {t : Option Nat} {ty : TypeId} {ps : String} {af : Array Edge} {gd : Option (Nat × Bool)} {x y : Operand} {X Y : T} {e off m : Nat} {b : Bool} {l l' : List T} {et : TypeId}
/-- move, assign: the same thing. -/
theorem mv (hX : envl g x = some X) (hn : J P ops fin r (OpS.p X :: H) (putg t X g) E) (hg : GuardIs ops g ⟨t, .move x, ty, ps, af, gd⟩ true := by exact gd0) : J P ops fin (⟨t, .move x, ty, ps, af, gd⟩ :: r) H g E :=
  j_val hg (ok_pure fun ρ β u w F hs he hH => ⟨ρ x, rfl, he x (by simp [Op.operands]) X hX⟩) hn
theorem asg (hX : envl g x = some X) (hn : J P ops fin r (OpS.p X :: H) (putg t X g) E) (hg : GuardIs ops g ⟨t, .assign x, ty, ps, af, gd⟩ true := by exact gd0) : J P ops fin (⟨t, .assign x, ty, ps, af, gd⟩ :: r) H g E :=
  j_val hg (ok_pure fun ρ β u w F hs he hH => ⟨ρ x, rfl, he x (by simp [Op.operands]) X hX⟩) hn
/-- A type's nought. -/
def Zero (P : Program) (ty : TypeId) (l : List T) : Prop := ∃ zs, (∀ w, (Instr.alloc ty true (.tuple #[])).run P w = .ok (pt w.heap.size 0) (w.alloc (.cells (List.toArray zs) ty (0, 0)))) ∧ ∀ β u, Cells β u l zs
theorem nw (e : Nat) (hz : Zero P et l) (hn : J P ops fin r (⟨[], [], [(e, Ent.box et l)], [e], T.p e 0⟩ :: H) (putg t (T.p e 0) g) ((e, some (Ent.box et l)) :: E)) (he : (l.flatMap (·.ns)).contains e = false := by rfl) (hg : GuardIs ops g ⟨t, .alloc et, ty, ps, af, gd⟩ true := by exact gd0) : J P ops fin (⟨t, .alloc et, ty, ps, af, gd⟩ :: r) H g E :=
  j_new hg (fun ρ β u w F hs hx hH => by
    obtain ⟨zs, h1, h2⟩ := hz
    unfold Res
    simp only [execOp, Sem.run_bind, h1, Result.andThen_ok, Sem.run_pure]
    exact after_box hs (h2 β u) he) hn
/-- A box with a value. -/
theorem bx (e : Nat) (hX : envl g x = some X) (hn : J P ops fin r (⟨[], [], [(e, Ent.box et [X])], [e], T.p e 0⟩ :: H) (putg t (T.p e 0) g) ((e, some (Ent.box et [X])) :: E)) (he : ([X].flatMap (·.ns)).contains e = false := by rfl) (h0 : Nat.beq X.sz 0 = false := by rfl) (hg : GuardIs ops g ⟨t, .box et x, ty, ps, af, gd⟩ true := by exact gd0) : J P ops fin (⟨t, .box et x, ty, ps, af, gd⟩ :: r) H g E :=
  j_new hg (fun ρ β u w F hs hx hH => by
    have hr := hx x (by simp [Op.operands]) X hX
    have h0' : X.sz ≠ 0 := fun h => by rw [h] at h0; cases h0
    have := after_box (C := []) (F := F) (e := e) (ty := et) (cs := (ρ x).cells.toList) hs (l := [X]) ⟨ρ x, [], h0', hr, (List.append_nil _).symm, rfl⟩ he
    unfold Res
    have hb : (Instr.box et (ρ x)).run P w = .ok (pt w.heap.size 0) (w.alloc (.cells (ρ x).cells et (0, 0))) := by simp [Instr.box, newVar, newRow]
    simp only [execOp, Sem.run_bind, hb, Result.andThen_ok, Sem.run_pure]
    simpa using this) hn
/-- A load out of a box. -/
theorem ld (hX : envl g x = some (T.p e off)) (hE : lkE E e = some (Ent.box et l)) {ty' : TypeId} (hT : Ty P ty' b m) (hF : fieldT b l off m = some X) (hn : J P ops fin r (⟨[e], [], [], [], X⟩ :: H) (putg t X g) E) (h1 : (b || m == 1) = true := by rfl) (hg : GuardIs ops g ⟨t, .load ty' x, ty, ps, af, gd⟩ true := by exact gd0) : J P ops fin (⟨t, .load ty' x, ty, ps, af, gd⟩ :: r) H g E :=
  j_use hE hg (fun ρ β u w F hs he hH => by
    obtain ⟨p, k1, k2⟩ := he x (by simp [Op.operands]) _ hX
    obtain ⟨p', cs, q1, q2, q3, q4⟩ := hH.hold e _ lk1_same
    have hpp : p' = p := by rw [k1] at q1; cases q1; rfl
    subst hpp
    obtain ⟨c1, c2⟩ := q4.field hF
    have hlen : ((cs.drop off).take m).length = m := by rw [List.length_take, List.length_drop]; omega
    have := run_loadAt (P := P) (w := w) (ad := ⟨p', off, none⟩) (vs := (cs.drop off).take m) (by rw [hlen]; exact hT) (box_cells q3 m) (by rw [hlen]; exact ty_one hT h1)
    unfold Res
    simp only [execOp, k2, Instr.loadAt, Instr.sureAddr, Sem.run_bind, Result.andThen_ok, Sem.run_pure, this]
    exact after_pure hs c2) hn
theorem run_store {w : World} {p off : Nat} {cs : List Value} {t : TypeId} {v : Value} {ty' : TypeId} (hb : w.heap[p]? = some (.cells cs.toArray t (0, 0))) (hT : Ty P ty' b m) (hv : Flat v m) (hr : off + m ≤ cs.length) : (Instr.storeAt ty' (pt p off) v).run P w = .ok () (w.setRow p (patch cs off v.cells.toList).toArray) := by
  obtain ⟨hl, h1⟩ := hv
  have := run_storeCells_at P p off t v.cells.toList 0 cs.toArray w hb (by simpa [hl] using hr) (fun u hu => List.all_eq_true.1 h1 u hu)
  have hs : v.cells.size = m := by simpa using hl
  simp only [Nat.add_zero] at this
  simp [Instr.storeAt, Instr.sureAddr, storeVar, run_sizeOf hT, hs, this, patch]
theorem tr_setRow {C : Nat → Prop} {u w : World} {p : Nat} {cs : Array Value} (hs : Sub u w) (hC : C p) (hd : Dead u p) : Tr C u w u (w.setRow p cs) :=
  ⟨rfl, rfl, rfl, by simp, fun k hk hc => setRow_other _ _ _ _ (fun e => hc (e ▸ hC)), Sub.refl _, (fun a v hv => by
    rw [cell_setRow_other]
    · exact hs a v hv
    · intro e; rw [hd a e] at hv; cases hv), fun _ _ _ h => h⟩
/-- A store into a box. -/
theorem st (hX : envl g x = some (T.p e off)) (hY : envl g y = some Y) (hE : lkE E e = some (Ent.box et l)) {ty' : TypeId} (hT : Ty P ty' b m) (hl : putC l off Y = some l') (hn : J P ops fin r (⟨[], [e], [(e, Ent.box et l')], [], T.c undef⟩ :: H) (putg t (T.c undef) g) ((e, some (Ent.box et l')) :: E)) (hm : Y.sz = m := by rfl) (h0 : Nat.beq m 0 = false := by rfl) (hg : GuardIs ops g ⟨t, .store ty' x y, ty, ps, af, gd⟩ true := by exact gd0) : J P ops fin (⟨t, .store ty' x y, ty, ps, af, gd⟩ :: r) H g E :=
  j_set hE hg (fun ρ β u w F hs he hH => by
    obtain ⟨p, k1, k2⟩ := he x (by simp [Op.operands]) _ hX
    have hy := he y (by simp [Op.operands]) _ hY
    obtain ⟨p', cs, q1, q2, q3, q4⟩ := hH.hold e _ lk1_same
    have hpp : p' = p := by rw [k1] at q1; cases q1; rfl
    subst hpp
    have h0' : Y.sz ≠ 0 := by rw [hm]; intro e; subst e; cases h0
    obtain ⟨c1, c2⟩ := q4.put hy h0' hl
    have hf := (Y.shp hy h0').1
    rw [hm] at hf c1
    have hd := (hH.dead e _ p' lk1_same ((q2 p').2 rfl)).1
    unfold Res
    simp only [execOp, k2, Sem.run_bind, run_store q3 hT hf c1, Result.andThen_ok, Sem.run_pure]
    refine ⟨u, β, F, fun _ _ => rfl, tr_setRow hs ⟨e, List.mem_cons_self, (q2 p').2 rfl⟩ hd, hold1 ⟨p', _, q1, q2, setRow_heap _ _ _ _ _ _ q3, c2⟩ (fun k hk => ?_), fun f Z k h hk => .inl ⟨e, List.mem_cons_self, ?_⟩, rfl⟩
    · rw [(q2 k).1 hk]; exact ⟨hd, by simpa using heap_lt q3⟩
    · obtain ⟨rfl, _⟩ := lk1 h; exact hk) hn
/-- Out of a tuple. -/
theorem ex {k : Nat} {As : List T} (hX : envl g x = some (T.tup As)) (hk : As[k]? = some X) (hn : J P ops fin r (OpS.p X :: H) (putg t X g) E) (hg : GuardIs ops g ⟨t, .extract x k, ty, ps, af, gd⟩ true := by exact gd0) : J P ops fin (⟨t, .extract x k, ty, ps, af, gd⟩ :: r) H g E :=
  j_val hg (ok_pure fun ρ β u w F hs he hH => by
    obtain ⟨vs, h1, h2⟩ := he x (by simp [Op.operands]) _ hX
    obtain ⟨v, h3, h4⟩ := h2.at hk
    exact ⟨v, by simp [execOp, h1, Instr.extract, h3], h4⟩) hn
/-- What a struct is made of. -/
class Sp (X : T) (l : outParam (List T)) : Prop where le : X.le (T.st l)
instance (l : List T) : Sp (T.st l) l := ⟨.refl _⟩
/-- A call of a function. -/
def envs (g : List (Nat × T)) : List Operand → Option (List T)
  | [] => some []
  | x :: r => match envl g x with
    | some X => (match envs g r with | some l => some (X :: l) | none => none)
    | none => none
theorem envs_reps {β : Env} {u : World} {ρ : Operand → Value} : ∀ {xs : List Operand} {As : List T}, envs g xs = some As → (∀ x ∈ xs, ∀ Y, envl g x = some Y → Y.rep β u (ρ x)) → Reps β u As (xs.map ρ)
  | [], As, h, _ => by cases h; trivial
  | x :: r, As, h, he => by
    unfold envs at h
    cases hx : envl g x with
    | none => rw [hx] at h; cases h
    | some X =>
      rw [hx] at h
      simp only at h
      cases hr : envs g r with
      | none => rw [hr] at h; cases h
      | some l =>
        rw [hr] at h
        cases h
        exact ⟨he x List.mem_cons_self X hx, envs_reps hr (fun y hy => he y (List.mem_cons_of_mem _ hy))⟩
def Enters (P : Program) (f : FuncId) : Prop := ∀ args w, (callFunc f args).run P w = .ok (.enter f args) w
theorem cl {f : FuncId} {xs : Array Operand} {tys : Array TypeId} {As : List T} (hA : envs g xs.toList = some As) (h : Fn P f As [] [] [] X) (hn : J P ops fin r (OpS.p X :: H) (putg t X g) E) (hen : Enters P f := by intro a w; kernel_rfl)
    (hg : GuardIs ops g ⟨t, .call ⟨.value (.func f), xs, tys⟩, ty, ps, af, gd⟩ true := by exact gd0) : J P ops fin (⟨t, .call ⟨.value (.func f), xs, tys⟩, ty, ps, af, gd⟩ :: r) H g E :=
  j_val hg (fun ρ β u w F hs he hH => by
    have hf : ρ (.func f) = .func (.func f) #[] #[] := he (.func f) (show Operand.func f ∈ (#[Operand.func f] ++ xs : Array Operand) from by simp) _ rfl
    have hre := envs_reps (β := β) (u := u) (ρ := ρ) hA (fun x hx Y hY => he x (show x ∈ (#[Operand.func f] ++ xs : Array Operand) from Array.mem_append_right _ (by simpa using hx)) Y hY)
    have := h _ β u w F hs hre (Hold.none _ _ _ _)
    unfold Res
    rw [show (execOp ρ ⟨t, .call ⟨.value (.func f), xs, tys⟩, ty, ps, af, gd⟩).run P w = .ok (.enter f (xs.toList.map ρ).toArray) w from by
      simp only [execOp, resolve, hf, Deferred.ofValue, Sem.run_bind, Sem.run_pure, Result.andThen_ok, invoke, hen _ w]
      congr 2
      apply Array.ext'; simp]
    exact this) hn
end
end Go.Proofs.Ytlmiadjogdfjkaa.V
