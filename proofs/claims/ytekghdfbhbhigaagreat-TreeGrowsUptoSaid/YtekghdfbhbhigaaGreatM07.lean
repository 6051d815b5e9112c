/- A walk through a search tree without recursion: which node comes behind another one. -/
import Derived.Scope
import Derived.Test.YtekghdfbhbhigaaGreatM06
set_option linter.unusedVariables false
set_option maxRecDepth 100000
namespace Go.Proofs.YtekghdfbhbhigaaGreat.V
open Go.RowKit Mt Nml
section
variable (D : List Int) (L : List (List Int)) (ts : List (Int × Int)) (n : Nat) (R : Rat) (r : Nat)
/-- A suffix within the bound; its centre. -/
def Wi (q : List Int) : Prop := ptT D L ts q (n - 1) q.length ≤ R
def cq_ (q : List Int) : Rat := ctT D L ts q (n - 1) (n - 1 - q.length) q.length
/-- What comes behind a suffix and all below it: no higher than r numbers. -/
inductive Ov : List Int → Option (List Int) → Prop
  | stop (q : List Int) : q.length ≤ r → Ov q none
  | go (q : List Int) (x : Int) : r < q.length + 1 → Wi D L ts n R (q ++ [bhd (cq_ D L ts n q) x]) → Ov (q ++ [x]) (some (q ++ [bhd (cq_ D L ts n q) x]))
  | up (q : List Int) (x : Int) (res : Option (List Int)) : r < q.length + 1 → ¬ Wi D L ts n R (q ++ [bhd (cq_ D L ts n q) x]) → Ov q res → Ov (q ++ [x]) res
/-- What comes behind a suffix. -/
def Dn (q : List Int) (res : Option (List Int)) : Prop := (q.length < n ∧ Wi D L ts n R (q ++ [nea (cq_ D L ts n q)]) ∧ res = some (q ++ [nea (cq_ D L ts n q)])) ∨ (¬ (q.length < n ∧ Wi D L ts n R (q ++ [nea (cq_ D L ts n q)])) ∧ Ov D L ts n R r q res)
/-- These come one behind another, then res. -/
def Rn : List Int → List (List Int) → Option (List Int) → Prop
  | p, [], res => Dn D L ts n R r p res
  | p, q :: l, res => Dn D L ts n R r p (some q) ∧ Rn q l res
end
section
variable {D : List Int} {L : List (List Int)} {ts : List (Int × Int)} {n : Nat} {R : Rat} {r : Nat}
theorem rn_append {res : Option (List Int)} {q : List Int} {b : List (List Int)} : ∀ {p : List Int} {a : List (List Int)}, Rn D L ts n R r p a (some q) → Rn D L ts n R r q b res → Rn D L ts n R r p (a ++ q :: b) res
  | p, [], h, k => ⟨h, k⟩
  | p, x :: a, h, k => ⟨h.1, rn_append (p := x) (a := a) h.2 k⟩
theorem Bel.run {k : Nat} {s : List Int} {d : Nat} {ns : List (List Int)} (h : Bel D L ts n k R s d ns) : s.length = d → r ≤ d → ∀ {res : Option (List Int)}, Ov D L ts n R r s res → Rn D L ts n R r s ns res := by
  induction h with
  | leaf s => exact fun hs hr res ho => .inr ⟨fun h => by omega, ho⟩
  | node s d m LL hd hz hw hn hB ih =>
    intro hs hr res ho
    subst hs
    have hwi : ∀ x : Int, Wi D L ts n R (s ++ [x]) ↔ ptT D L ts (s ++ [x]) (n - 1) (s.length + 1) ≤ R := fun x => by unfold Wi; rw [show (s ++ [x]).length = s.length + 1 by simp]
    have hc : cq_ D L ts n s = ctT D L ts s (n - 1) (n - 1 - s.length) s.length := rfl
    have key : ∀ m', m' ≤ m → ∀ res', (m' = 0 → Dn D L ts n R r s res') → (∀ j, m' = j + 1 → Ov D L ts n R r (s ++ [nth (ctT D L ts s (n - 1) (n - 1 - s.length) s.length) j]) res') → Rn D L ts n R r s (fl s (nth (ctT D L ts s (n - 1) (n - 1 - s.length) s.length)) LL m') res' := by
      intro m'
      induction m' with
      | zero => exact fun _ res' h0 _ => h0 rfl
      | succ m' ih' =>
        intro hm' res' _ h1
        refine rn_append (ih' (by omega) _ (fun h0 => ?_) (fun j hj => ?_)) (ih m' (by omega) (by simp) (by omega) (h1 m' rfl))
        · subst h0
          have := (hwi _).2 (hw 0 (by omega))
          rw [nth_zero] at this ⊢
          exact .inl ⟨hd, this, rfl⟩
        · subst hj
          have := (hwi _).2 (hw (j + 1) (by omega))
          rw [← bhd_nth] at this ⊢
          exact Ov.go s _ (by omega) this
    refine key m (Nat.le_refl _) res (fun h0 => ?_) (fun j hj => ?_)
    · subst h0
      refine .inr ⟨fun h => hn ?_, ho⟩
      rw [nth_zero]
      exact (hwi _).1 h.2
    · subst hj
      refine Ov.up s _ res (by omega) (fun h => hn ?_) ho
      rw [← bhd_nth]
      exact (hwi _).1 h
end
end Go.Proofs.YtekghdfbhbhigaaGreat.V
/- Search trees: the children of a suffix. -/
set_option linter.unusedVariables false
set_option linter.unusedSimpArgs false
set_option maxRecDepth 100000
namespace Go.Proofs.YtekghdfbhbhigaaGreat.V
open Go.RowKit Mt Nml
theorem t_counted_e {D : List Int} {L : List (List Int)} {ts : List (Int × Int)} {a b : Int} {k : Nat} {s : List Int} {m mo r : Int} (hr : r ≠ 0) (hf : Fn Tryz.prog 59 [T.Tr D L ts a b k, T.l (cZi k) s, T.c (.int .i64 m)] [] [] [] (T.c (.int .i64 r))) : Fn Tryz.prog 63 [T.Tr D L ts a b k, T.l (cZi k) s, T.c (.int .i64 m), T.c (.int .i64 mo)] [] [] [] (T.c (.int .i64 r)) := by
  refine fn_of Tryz.func63 rfl (by show 4 ≤ 23; decide) fun cx hcx => ?_
  refine tri_sub (sl 0 rfl (sl 1 rfl (sl 2 rfl (sl 3 rfl sn)))) en ?_
  refine tri_seq ?_
  refine tri_reg mixed hcx ?_ _ _
  refine bxs 10 rfl ?_
  refine asg rfl ?_
  refine ⟨by kernel_rfl, ?_⟩
  refine nx (sl 1 rfl (sl 2 rfl (sl 3 rfl (sl 4 rfl sn)))) (el 10 rfl en) ?_
  refine tri_seq ?_
  refine tri_seq ?_
  refine tri_reg mixed hcx ?_ _ _
  refine ld rfl rfl tyTr rfl ?_
  refine mv rfl ?_
  refine mv rfl ?_
  refine ca rfl (h := hf) (hn := ?_)
  refine asg rfl ?_
  refine ⟨by kernel_rfl, ?_⟩
  refine nx (sl 3 rfl (sl 9 rfl sn)) (el 10 rfl en) ?_
  refine tri_seq ?_
  refine tri_reg mixed hcx ?_ _ _
  refine mv rfl ?_
  refine cne rfl rfl (decide_eq_true hr) ?_
  refine ⟨by kernel_rfl, ?_⟩
  refine nx (sl 3 rfl (sl 9 rfl (sl 15 rfl sn))) (el 10 rfl en) ?_
  refine tri_true rfl rfl ?_
  refine tri_seq ?_
  refine tri_reg mixed hcx ?_ _ _
  refine mv rfl ?_
  refine asg rfl ?_
  refine ⟨by kernel_rfl, ?_⟩
  refine nx (sl 8 rfl sn) (el 10 rfl en) ?_
  refine tri_ret ?_
  repeat (first | refine pn_thenr ?_ | refine pn_blkr ?_)
  exact ret1 hcx rfl (rv_tmp rfl) (.refl _) en

theorem TrS.mono {D : List Int} {L : List (List Int)} {ts : List (Int × Int)} {n k K : Nat} (h : TrS D L ts n k) (hk : k ≤ K) (hK : K ≤ 16777216) : TrS D L ts n K where
  good := h.good
  len := h.len
  twelve := h.twelve
  tl := h.tl
  tp := h.tp
  zt := fun i hi => ⟨Nat.le_trans (h.zt i hi).1 hk, Nat.le_trans (h.zt i hi).2 hk⟩
  zD := fun j => Nat.le_trans (h.zD j) hk
  zL := fun i j => Nat.le_trans (h.zL i j) hk
  hk := hK
theorem tr_mono {D : List Int} {L : List (List Int)} {ts : List (Int × Int)} {a b : Int} {k K : Nat} (hk : k ≤ K) : (T.Tr D L ts a b k).le (T.Tr D L ts a b K) := st_le ⟨tl_le (fun _ => zi_mono hk) _, tl_le (fun _ => tl_le (fun _ => zi_mono hk) _) _, tl_le (fun q => st_le (l := [T.Zi q.1 k, T.Zi q.2 k]) (l' := [T.Zi q.1 K, T.Zi q.2 K]) ⟨zi_mono hk, zi_mono hk, trivial⟩) _, zi_mono hk, zi_mono hk, trivial⟩

theorem cells_qz3 {k : Nat} {u : World} : ∀ {l : List (Int × Int)} {cs : List Value}, Cells B0 u (l.map (cQi k).X) cs → ∀ q ∈ l, zl q.1 ≤ k ∧ zl q.2 ≤ k
  | [], _, _, q, h => by cases h
  | a :: r, cs, ⟨v, rest, _, ⟨ys, _, v1, r1, _, h1, _, v2, r2, _, h3, _⟩, _, h2⟩, q, h => by
    rcases List.mem_cons.1 h with rfl | h
    · exact ⟨zi_zl h1, zi_zl h3⟩
    · exact cells_qz3 h2 q h
theorem l_qz3 {k : Nat} {β : Env} {u : World} {l : List (Int × Int)} {v : Value} (h : (T.l (cQi k) l).rep β u v) : ∀ q ∈ l, zl q.1 ≤ k ∧ zl q.2 ≤ k := fun q hq => by
  obtain ⟨A, n, c, _, h1, _, _, h4⟩ := h
  have hp : 0 < n := by rw [← h1]; exact List.length_pos_of_mem hq
  obtain ⟨ad, _, xs, h5, _⟩ := h4 hp
  exact cells_qz3 h5 q hq
/-- The sizes of a tree's numbers. -/
structure TrZ (D : List Int) (L : List (List Int)) (ts : List (Int × Int)) (a b : Int) (k : Nat) : Prop where
  zD : ∀ j, zl (D.getD j 0) ≤ k
  zL : ∀ i j, zl ((L.getD j []).getD i 0) ≤ k
  zt : ∀ i, i < ts.length → zl (ts.getD i (0, 0)).1 ≤ k ∧ zl (ts.getD i (0, 0)).2 ≤ k
  za : zl a ≤ k
theorem fn_trz {P : Program} {f : FuncId} {R : T} {As : List T} {D : List Int} {L : List (List Int)} {ts : List (Int × Int)} {a b : Int} {k : Nat} {Ei Eo : List (Nat × Ent)} {N : List Nat} (h : TrZ D L ts a b k → Fn P f (T.Tr D L ts a b k :: As) Ei Eo N R) : Fn P f (T.Tr D L ts a b k :: As) Ei Eo N R := fun vs β u w F hs hr hH => by
  match vs, hr with
  | v0 :: r, ⟨r0, r1⟩ =>
    have r0' := r0
    obtain ⟨cs, _, v1, s1, _, a1, _, v2, s2, _, a2, _, v3, s3, _, a3, _, v4, s4, _, a4, _⟩ := r0'
    exact h ⟨getD_zl (l_zl a1), ll_zl a2, fun i hi => l_qz3 a3 (ts.getD i (0, 0)) (by rw [List.getD_eq_getElem?_getD, List.getElem?_eq_getElem hi]; exact List.getElem_mem hi), zi_zl a4⟩ _ β u w F hs ⟨r0, r1⟩ hH
theorem TrV.trs {D : List Int} {L : List (List Int)} {ts : List (Int × Int)} {a b : Int} {k : Nat} (h : TrV D L ts a b) (z : TrZ D L ts a b k) (hk : k ≤ 16777216) : TrS D L ts L.length k := ⟨h.1, rfl, h.2.1, h.2.2.1, h.2.2.2.1, z.zt, z.zD, z.zL, hk⟩

end Go.Proofs.YtekghdfbhbhigaaGreat.V
/- A logic of calls: code that holds a label, gone through without a jump to it. -/
set_option linter.unusedVariables false
set_option linter.unusedSimpArgs false
namespace Go.Proofs.YtekghdfbhbhigaaGreat.V
open Go.RowKit
theorem stepR_scope {P : Program} {b : Frame} {a : Act} {k : List Item} {cs : List Frame} {w : World} {c : Code} : step P (lone (b.atR a (.code (.scope c) :: k)) cs w) = .next (lone (b.atR a (.code c :: .inScope c :: k)) cs w) :=
  step_lone_go (by simp [stepG, stepG.exec, Frame.atR])
theorem stepR_inScope {P : Program} {b : Frame} {a : Act} {k : List Item} {cs : List Frame} {w : World} {c : Code} : step P (lone (b.atR a (.inScope c :: k)) cs w) = .next (lone (b.atR a k) cs w) :=
  step_lone_go (by simp [stepG, stepG.exec, Frame.atR])
theorem wpIn_scope {F : Fence} {n : Nat} {P : Program} {Q : Exit → Act → World → Prop} {a : Act} {w : World} {c : Code} (h : c.wpIn F n P (Exit.noGoto Q) a w) : (Code.scope c).wpIn F n P Q a w := by
  intro b k cs hro hb hr
  have h0 : (lone (b.atR a (.code (.scope c) :: k)) cs w).fenced P F := fenced_calm hb hr rfl
  obtain ⟨e, a₁, w₁, hq, harr⟩ := h b (.inScope c :: k) cs hro hb hr
  cases e with
  | normal => exact ⟨.normal, a₁, w₁, hq, .head h0 stepR_scope (StepsIn.trans harr (.one (fenced_calm hb hr rfl) stepR_inScope))⟩
  | exit id' =>
    have hx : exitTo id' (.inScope c :: k) = exitTo id' k := by simp [exitTo]
    exact ⟨.exit id', a₁, w₁, hq, fun k' hk => .head h0 stepR_scope (harr.1 k' (by rw [hx]; exact hk)),
      fun hr' hk => let ⟨k₁, h1, h2⟩ := harr.2 hr' (by rw [hx]; exact hk); ⟨k₁, h1, .head h0 stepR_scope h2⟩⟩
  | goto l => exact hq.elim
  | ret => exact ⟨_, a₁, w₁, hq, .of_steps (.one h0 stepR_scope) harr⟩
  | panic ch => exact ⟨_, a₁, w₁, hq, .of_steps (.one h0 stepR_scope) harr⟩
  | outgrown => exact ⟨_, a₁, w₁, hq, .of_steps (.one h0 stepR_scope) harr⟩
section
variable {P : Program} {Q : Exit → Act → World → Prop} {c : Ctx} {n : Nat} {g : List (Nat × T)} {E : List (Nat × Option Ent)} {x : Code}
theorem tri_scope (h : Tri P x (Exit.noGoto Q) c n g E) : Tri P (.scope x) Q c n g E := fun a w hS => wpIn_scope (h a w hS)
theorem tri_label {l : Nat} (h : PN c n (Q .normal) g E) : Tri P (.label l) Q c n g E := fun a w hS => wpIn_label (h a w hS)
theorem pn_scr (h : PN c n (Q .ret) g E) : PN c n (Exit.noGoto Q .ret) g E := h
theorem pn_sce {id : Nat} (h : PN c n (Q (.exit id)) g E) : PN c n (Exit.noGoto Q (.exit id)) g E := h
end
end Go.Proofs.YtekghdfbhbhigaaGreat.V
/- Search trees: the nodes, in their order. -/
set_option linter.unusedVariables false
set_option linter.unusedSimpArgs false
set_option maxRecDepth 100000
namespace Go.Proofs.YtekghdfbhbhigaaGreat.V
open Go.RowKit Mt Nml
/-- A row as it is filled. -/
def fw (xs : List Int) (i : Nat) : List Int := xs.take i ++ List.replicate (xs.length - i) 0
theorem fw_len (xs : List Int) {i : Nat} (h : i ≤ xs.length) : (fw xs i).length = xs.length := by unfold fw; rw [List.length_append, List.length_take, List.length_replicate]; omega
theorem fw_zero (xs : List Int) : List.replicate xs.length 0 = fw xs 0 := by simp [fw]
theorem fw_all (xs : List Int) {i : Nat} (h : i = xs.length) : fw xs i = xs := by subst h; simp [fw]
theorem fw_set (xs : List Int) {i : Nat} (h : i < xs.length) : (fw xs i).set i (xs.getD i 0) = fw xs (i + 1) := by
  have e := fill_set (xs.take i) xs.length 0 (xs.getD i 0) (by rw [List.length_take]; omega)
  rw [show (xs.take i).length = i by rw [List.length_take]; omega] at e
  unfold fw
  rw [e, take_snoc h]

theorem t_Nodes {D : List Int} {L : List (List Int)} {ts : List (Int × Int)} {a b : Int} {n k : Nat} (h : TrS D L ts n k) (hb : 0 < b) (ha : 0 ≤ a) {ns : List (List Int)} {mo : Nat} (hmo : mo ≤ 65536) (hB : Bel D L ts n k ((a : Rat) / (b : Rat)) [] 0 ns) : Fn Tryz.prog 25 [T.Tr D L ts a b k, T.c (.int .i64 (mo : Int))] [] [] [] (T.tup [T.l (cL (cZ k)) (ns.take mo), T.c (.bool (decide (ns.length ≤ mo))), T.c (.int .i64 0)]) := by
  refine fn_ofM Tryz.func25 rfl (by show 2 ≤ 49; decide) fun cx hcx => ?_
  refine tri_sub (sl 0 rfl (sl 1 rfl sn)) en ?_
  have hn12 := h.twelve
  have hkk := h.hk
  have hlL := h.len
  have hn0 := h.pos
  refine tri_seq ?_
  refine tri_reg mixed hcx ?_ _ _
  refine bxs 10 rfl ?_
  refine bx 11 rfl ?_
  refine asg rfl ?_
  refine asg rfl ?_
  refine asg rfl ?_
  refine ⟨by kernel_rfl, ?_⟩
  refine nx (sl 2 rfl (sl 3 rfl sn)) (el 10 rfl (el 11 rfl en)) ?_
  refine tri_scope ?_
  refine tri_seq ?_
  refine tri_seq ?_
  refine tri_reg mixed hcx ?_ _ _
  refine ld rfl rfl tyTr rfl ?_
  refine ld rfl rfl tyI rfl ?_
  refine ca rfl (h := t_counted (s := []) (m := 0) h hb ha (Nat.le_refl _) (by simp) hmo) (hn := ?_)
  refine asg rfl ?_
  refine ⟨by kernel_rfl, ?_⟩
  refine nx (sl 2 rfl (sl 3 rfl (sl 7 rfl sn))) (el 10 rfl (el 11 rfl en)) ?_
  refine tri_seq ?_
  refine tri_reg mixed hcx ?_ _ _
  refine mv rfl ?_
  refine cne rfl rfl (decide_eq_false (by omega)) ?_
  refine ⟨by kernel_rfl, ?_⟩
  refine nx (sl 2 rfl (sl 3 rfl (sl 7 rfl (sl 17 rfl sn)))) (el 10 rfl (el 11 rfl en)) ?_
  refine tri_false rfl rfl ?_
  refine tri_skip ?_
  refine nx (sl 2 rfl (sl 3 rfl sn)) (el 10 rfl (el 11 rfl en)) ?_
  refine tri_seq ?_
  refine tri_reg mixed hcx ?_ _ _
  refine nw 410 zeZss ?_
  refine ⟨by kernel_rfl, ?_⟩
  refine nx (sl 2 rfl (sl 3 rfl (sl 8 rfl sn))) (el 10 rfl (el 11 rfl (el 410 rfl en))) ?_
  refine tri_seq ?_
  refine tri_reg mixed hcx ?_ _ _
  refine nw 510 zeB ?_
  refine st rfl rfl rfl tyB rfl ?_
  refine ⟨by kernel_rfl, ?_⟩
  refine nx (sl 2 rfl (sl 3 rfl (sl 8 rfl (sl 9 rfl sn)))) (el 10 rfl (el 11 rfl (el 410 rfl (el 510 rfl en)))) ?_
  refine tri_seq ?_
  refine tri_label ?_
  refine nx (sl 2 rfl (sl 3 rfl (sl 8 rfl (sl 9 rfl sn)))) (el 10 rfl (el 11 rfl (el 410 rfl (el 510 rfl en)))) ?_
  refine tri_seq ?_
  refine tri_seq ?_
  rcases Nat.lt_or_ge mo ns.length with hlt | hle
  · refine tri_nilb (cL (cZ k)) 23 (bl := [T.c (.slice none 0 0)]) (bl' := [T.o 9]) 410 9 rfl ⟨.inr ⟨rfl, rfl⟩, trivial⟩ (by rw [hcx]; kernel_rfl) ?_
    refine tri_reg mixed hcx ?_ _ _
    refine ld rfl rfl tyTr rfl ?_
    refine ca rfl (h := t_each) (hn := ?_)
    refine ⟨by kernel_rfl, ?_⟩
    refine nx (sl 3 rfl (sl 8 rfl (sl 9 rfl (sl 20 rfl sn)))) (el 10 rfl (el 11 rfl (el 410 rfl (el 510 rfl (el 9 rfl en))))) ?_
    refine tri_block ?_
    refine tri_range (ι := Nat) (κ := Unit) (f := 128) (Caps := [T.fp (T.Tr D L ts a b k)]) (R := T.tup []) (g' := [(3, T.p 11 0), (8, T.p 410 0), (9, T.p 510 0)]) (fun j => [(11, some (Ent.box 3 [T.c (.int .i64 (mo : Int))])), (410, some (Ent.box 22 [T.o 9])), (510, some (Ent.box 4 [T.c (.bool true)])), (9, some (Ent.row (cL (cZ k)) 23 (ns.take j)))]) (fun _ => [(11, some (Ent.box 3 [T.c (.int .i64 (mo : Int))])), (410, some (Ent.box 22 [T.o 9])), (510, some (Ent.box 4 [T.c (.bool false)])), (9, some (Ent.row (cL (cZ k)) 23 (ns.take mo)))]) (fun _ => .exit 0) (fun j X o => (j < mo ∧ X = T.l (cZi k) (ns.getD j []) ∧ o = .inl (j + 1)) ∨ (j = mo ∧ X = T.l (cZi k) (ns.getD j []) ∧ o = .inr ())) (0) (.inr ()) rfl hcx rfl (by intro a w; kernel_rfl) (by decide) (sl 3 rfl (sl 8 rfl (sl 9 rfl sn))) (el 11 rfl (el 410 rfl (el 510 rfl (ew 9 rfl (.of (by rfl)) en)))) ?_ ?_ ?_ ?_
    · intro lw W V hW
      exact t_each1 (Z := W) (zf := V ()) (K := mo) h hb hB (by omega) (fun j hj => hW j _ (.inl (j + 1)) (.inl ⟨hj, rfl, rfl⟩)) (fun _ => hW mo _ (.inr ()) (.inr ⟨rfl, rfl, rfl⟩)) (fun h => absurd h (by omega))
    · rintro j X o (⟨_, rfl, _⟩ | ⟨_, rfl, _⟩) <;> rfl
    · rintro lr dB rr c' hrd hdf hcx' j X o (⟨hj, rfl, rfl⟩ | ⟨hj, rfl, rfl⟩)
      · have hjl : j < ns.length := by omega
        have hbl := hB.len rfl j (by omega)
        have htk : (ns.take j).length = j := by rw [List.length_take]; omega
        refine tri_reg mixed hcx' ?_ _ _
        refine asg rfl ?_
        refine ⟨by kernel_rfl, ?_⟩
        refine nx_begin hrd rfl (sl 3 rfl (sl 8 rfl (sl 9 rfl (sl 10 rfl sn)))) (el 702 rfl (el 701 rfl (el 11 rfl (el 410 rfl (el 510 rfl (el 9 rfl en)))))) ?_
        refine tri_block ?_
        refine tri_seq ?_
        refine tri_seq ?_
        refine tri_reg mixed hcx' ?_ _ _
        refine ld rfl rfl tyZss rfl ?_
        refine lno slZss rfl rfl ?_
        refine ld rfl rfl tyI rfl ?_
        refine ceq rfl rfl (decide_eq_false (by omega)) ?_
        refine ⟨by kernel_rfl, ?_⟩
        refine nx (sl 8 rfl (sl 9 rfl (sl 10 rfl (sl 25 rfl sn)))) (el 702 rfl (el 701 rfl (el 11 rfl (el 410 rfl (el 510 rfl (el 9 rfl en)))))) ?_
        refine tri_false rfl rfl ?_
        refine tri_skip ?_
        refine nx (sl 8 rfl (sl 10 rfl sn)) (el 702 rfl (el 701 rfl (el 11 rfl (el 410 rfl (el 510 rfl (el 9 rfl en)))))) ?_
        refine tri_seq ?_
        refine tri_reg mixed hcx' ?_ _ _
        refine mv rfl ?_
        refine ln slZs rfl ?_
        refine mkz (c := (cZ k)) (n := (ns.getD j []).length) 1012 slZs rfl (by omega) (fun u => ⟨zvZ, zrZ k u⟩) (by decide) ?_
        refine asg rfl ?_
        refine ⟨by kernel_rfl, ?_⟩
        refine nx (sl 8 rfl (sl 10 rfl (sl 11 rfl sn))) (el 702 rfl (el 701 rfl (el 11 rfl (el 410 rfl (el 510 rfl (el 9 rfl (el 1012 rfl en))))))) ?_
        refine tri_seq ?_
        refine tri_seq ?_
        refine tri_reg mixed hcx' ?_ _ _
        refine mv rfl ?_
        refine ln slZs rfl ?_
        refine mv rfl ?_
        refine ⟨by kernel_rfl, ?_⟩
        refine nx (sl 8 rfl (sl 10 rfl (sl 11 rfl (sl 30 rfl (sl 31 rfl sn))))) (el 702 rfl (el 701 rfl (el 11 rfl (el 410 rfl (el 510 rfl (el 9 rfl (el 1012 rfl en))))))) ?_
        refine tri_block ?_
        refine tri_loop (ι := Nat) (fun i => [(8, T.p 410 0), (10, T.l (cZi k) (ns.getD j [])), (11, T.o 1012), (30, T.c (.int .i64 ((ns.getD j []).length : Int))), (31, T.c (.int .i64 (i : Int)))]) (fun i => [(702, some (Ent.ob lr (RecO rr .busy none))), (701, some (Ent.ob dB dfr)), (11, some (Ent.box 3 [T.c (.int .i64 (mo : Int))])), (410, some (Ent.box 22 [T.o 9])), (510, some (Ent.box 4 [T.c (.bool true)])), (9, some (Ent.row (cL (cZ k)) 23 (ns.take j))), (1012, some (Ent.row (cZ k) 32 (fw (ns.getD j []) i)))]) (fun i => (ns.getD j []).length - i) (fun i => (i ≤ (ns.getD j []).length)) 0 (Nat.zero_le _) (sl 8 rfl (sl 10 rfl (sl 11 rfl (sl 30 rfl (sl 31 rfl sn))))) (el 702 rfl (el 701 rfl (el 11 rfl (el 410 rfl (el 510 rfl (el 9 rfl (ew 1012 rfl (.of (by rw [← fw_zero]; rfl)) en))))))) ?_
        rintro i hi
        refine tri_sub (sl 8 rfl (sl 10 rfl (sl 11 rfl (sl 30 rfl (sl 31 rfl sn))))) (el 702 rfl (el 701 rfl (el 11 rfl (el 410 rfl (el 510 rfl (el 9 rfl (el 1012 rfl en))))))) ?_
        have hfl := fw_len (ns.getD j []) hi
        refine tri_seq ?_
        refine tri_reg mixed hcx' ?_ _ _
        refine clt rfl rfl rfl ?_
        refine ⟨by kernel_rfl, ?_⟩
        refine nx (sl 8 rfl (sl 10 rfl (sl 11 rfl (sl 30 rfl (sl 31 rfl (sl 32 rfl sn)))))) (el 702 rfl (el 701 rfl (el 11 rfl (el 410 rfl (el 510 rfl (el 9 rfl (el 1012 rfl en))))))) ?_
        refine tri_seq ?_
        refine tri_if rfl (fun hc => ?_) (fun hc => ?_)
        · have hc2 : i < (ns.getD j []).length := by omega
          refine tri_skip ?_
          refine nx (sl 8 rfl (sl 10 rfl (sl 11 rfl (sl 30 rfl (sl 31 rfl sn))))) (el 702 rfl (el 701 rfl (el 11 rfl (el 410 rfl (el 510 rfl (el 9 rfl (el 1012 rfl en))))))) ?_
          refine tri_seq ?_
          refine tri_block ?_
          refine tri_seq ?_
          refine tri_reg mixed hcx' ?_ _ _
          refine mv rfl ?_
          refine asg rfl ?_
          refine ⟨by kernel_rfl, ?_⟩
          refine nx (sl 8 rfl (sl 10 rfl (sl 11 rfl (sl 12 rfl (sl 30 rfl (sl 31 rfl sn)))))) (el 702 rfl (el 701 rfl (el 11 rfl (el 410 rfl (el 510 rfl (el 9 rfl (el 1012 rfl en))))))) ?_
          refine tri_reg mixed hcx' ?_ _ _
          refine mv rfl ?_
          refine mv rfl ?_
          refine mv rfl ?_
          refine mv rfl ?_
          refine ix rfl rfl slZs ⟨rfl, by omega⟩ ?_
          refine lf rfl tyZ ?_
          refine ca rfl (h := zi_Form (by omega)) (hn := ?_)
          refine ixo rfl rfl rfl slZs ⟨rfl, by omega⟩ ?_
          refine so rfl rfl rfl (.refl _) tyZ ⟨rfl, by omega⟩ ?_
          refine ⟨by kernel_rfl, ?_⟩
          refine pn_blk ?_
          refine nx (sl 8 rfl (sl 10 rfl (sl 11 rfl (sl 30 rfl (sl 31 rfl sn))))) (el 702 rfl (el 701 rfl (el 11 rfl (el 410 rfl (el 510 rfl (el 9 rfl (el 1012 rfl en))))))) ?_
          refine tri_reg mixed hcx' ?_ _ _
          refine ad (((i + 1 : Nat) : Int)) rfl rfl rfl (by omega) ?_
          refine mv rfl ?_
          refine ⟨by kernel_rfl, ?_⟩
          exact pn_back (i + 1) (by first | omega | (dsimp only; omega)) (by omega) (sl 8 rfl (sl 10 rfl (sl 11 rfl (sl 30 rfl (sl 31 rfl sn))))) (el 702 rfl (el 701 rfl (el 11 rfl (el 410 rfl (el 510 rfl (el 9 rfl (ew 1012 rfl (.of (by rw [← fw_set _ hc2]; rfl)) en)))))))
        · refine tri_exit ?_
          repeat (first | refine pn_then ?_ | refine pn_oth (by decide) ?_ | refine pn_sce ?_)
          refine pn_ex ?_
          have hin : i = (ns.getD j []).length := by omega
          refine nx (sl 8 rfl (sl 11 rfl sn)) (el 702 rfl (el 701 rfl (el 11 rfl (el 410 rfl (el 510 rfl (el 9 rfl (el 1012 rfl en))))))) ?_
          refine tri_fz 1012 rfl ?_
          refine tri_rd 11 1012 rfl rfl ?_
          refine tri_as 11 (Z := T.l (cZ k) (ns.getD j [])) rfl (.of (by rw [fw_all _ hin])) ?_
          refine tri_reg mixed hcx' ?_ _ _
          refine ld rfl rfl tyZss rfl ?_
          refine mv rfl ?_
          refine bs (c := cL (cZ k)) (xs := [(ns.getD j [])]) slZss rfl ⟨.refl _, trivial⟩ ?_
          refine ap 1613 rfl rfl rfl slZss (by simp only [List.length_cons, List.length_nil]; omega) (by decide) ?_
          refine st rfl rfl rfl tyZss rfl ?_
          refine ⟨by kernel_rfl, ?_⟩
          refine pn_blk ?_
          refine pn_sub sn (el 702 rfl (el 701 rfl (el 11 rfl (el 410 rfl (el 510 rfl (el 1613 rfl en)))))) ?_
          refine pn_renb (bl := [T.o 1613]) (bl' := [T.o 9]) 410 9 1613 rfl rfl ⟨.inr ⟨rfl, rfl⟩, trivial⟩ (by rw [hcx']; kernel_rfl) rfl ?_
          exact rq_go (el 702 rfl (el 701 rfl (el 11 rfl (el 410 rfl (el 510 rfl (ew 9 rfl (.of (by rw [← take_snoc hjl])) en))))))
      · have hbl := hB.len rfl j (by omega)
        have htk : (ns.take j).length = j := by rw [List.length_take]; omega
        refine tri_reg mixed hcx' ?_ _ _
        refine asg rfl ?_
        refine ⟨by kernel_rfl, ?_⟩
        refine nx_begin hrd rfl (sl 3 rfl (sl 8 rfl (sl 9 rfl (sl 10 rfl sn)))) (el 702 rfl (el 701 rfl (el 11 rfl (el 410 rfl (el 510 rfl (el 9 rfl en)))))) ?_
        refine tri_block ?_
        refine tri_seq ?_
        refine tri_seq ?_
        refine tri_reg mixed hcx' ?_ _ _
        refine ld rfl rfl tyZss rfl ?_
        refine lno slZss rfl rfl ?_
        refine ld rfl rfl tyI rfl ?_
        refine ceq rfl rfl (decide_eq_true (by omega)) ?_
        refine ⟨by kernel_rfl, ?_⟩
        refine nx (sl 8 rfl (sl 9 rfl (sl 10 rfl (sl 25 rfl sn)))) (el 702 rfl (el 701 rfl (el 11 rfl (el 410 rfl (el 510 rfl (el 9 rfl en)))))) ?_
        refine tri_true rfl rfl ?_
        refine tri_seq ?_
        refine tri_reg mixed hcx' ?_ _ _
        refine st rfl rfl rfl tyB rfl ?_
        refine ⟨by kernel_rfl, ?_⟩
        refine nx (sl 8 rfl (sl 9 rfl sn)) (el 702 rfl (el 701 rfl (el 11 rfl (el 410 rfl (el 510 rfl (el 9 rfl en)))))) ?_
        refine tri_exit ?_
        repeat (first | refine pn_then ?_ | refine pn_oth (by decide) ?_ | refine pn_sce ?_)
        exact rq_exit (el 702 rfl (el 701 rfl (el 11 rfl (el 410 rfl (el 510 rfl (ew 9 rfl (.of (by rw [hj])) en))))))
    · intro lr dB oo
      refine done_stop ?_
      refine tri_exit ?_
      repeat (first | refine pn_then ?_ | refine pn_oth (by decide) ?_ | refine pn_sce ?_)
      refine pn_ex ?_
      refine nx (sl 8 rfl (sl 9 rfl sn)) (el 702 rfl (el 701 rfl (el 11 rfl (el 410 rfl (el 510 rfl (el 9 rfl en)))))) ?_
      refine tri_seq ?_
      refine tri_reg mixed (show (cx.up.put dB).I = _ from hcx) ?_ _ _
      refine ld rfl rfl tyZss rfl ?_
      refine ld rfl rfl tyB rfl ?_
      refine asg rfl ?_
      refine asg rfl ?_
      refine asg rfl ?_
      refine ⟨by kernel_rfl, ?_⟩
      refine nx (sl 4 rfl (sl 5 rfl (sl 6 rfl sn))) (el 702 rfl (el 701 rfl (el 11 rfl (el 410 rfl (el 510 rfl (el 9 rfl en)))))) ?_
      refine tri_fz 9 rfl ?_
      refine tri_rd 4 9 rfl rfl ?_
      refine tri_ret ?_
      repeat (first | refine pn_thenr ?_ | refine pn_blkr ?_ | refine pn_scr ?_)
      refine ret_M1 (.inl rfl) rfl rfl ?_
      exact ret3 hcx rfl (rv_tmp rfl) (rv_tmp rfl) (rv_tmp rfl) (tup_le ⟨.refl _, .of (by rw [decide_eq_false (by omega)]), .refl _, trivial⟩) en
  · refine tri_nilb (cL (cZ k)) 23 (bl := [T.c (.slice none 0 0)]) (bl' := [T.o 9]) 410 9 rfl ⟨.inr ⟨rfl, rfl⟩, trivial⟩ (by rw [hcx]; kernel_rfl) ?_
    refine tri_reg mixed hcx ?_ _ _
    refine ld rfl rfl tyTr rfl ?_
    refine ca rfl (h := t_each) (hn := ?_)
    refine ⟨by kernel_rfl, ?_⟩
    refine nx (sl 3 rfl (sl 8 rfl (sl 9 rfl (sl 20 rfl sn)))) (el 10 rfl (el 11 rfl (el 410 rfl (el 510 rfl (el 9 rfl en))))) ?_
    refine tri_block ?_
    refine tri_range (ι := Nat) (κ := Unit) (f := 128) (Caps := [T.fp (T.Tr D L ts a b k)]) (R := T.tup []) (g' := [(3, T.p 11 0), (8, T.p 410 0), (9, T.p 510 0)]) (fun j => [(11, some (Ent.box 3 [T.c (.int .i64 (mo : Int))])), (410, some (Ent.box 22 [T.o 9])), (510, some (Ent.box 4 [T.c (.bool true)])), (9, some (Ent.row (cL (cZ k)) 23 (ns.take j)))]) (fun _ => [(11, some (Ent.box 3 [T.c (.int .i64 (mo : Int))])), (410, some (Ent.box 22 [T.o 9])), (510, some (Ent.box 4 [T.c (.bool false)])), (9, some (Ent.row (cL (cZ k)) 23 (ns.take mo)))]) (fun _ => .exit 0) (fun j X o => j < ns.length ∧ X = T.l (cZi k) (ns.getD j []) ∧ o = .inl (j + 1)) (0) (.inl ns.length) rfl hcx rfl (by intro a w; kernel_rfl) (by decide) (sl 3 rfl (sl 8 rfl (sl 9 rfl sn))) (el 11 rfl (el 410 rfl (el 510 rfl (ew 9 rfl (.of (by rfl)) en)))) ?_ ?_ ?_ ?_
    · intro lw W V hW
      exact t_each1 (Z := W) (zf := W ns.length) (K := ns.length) h hb hB (Nat.le_refl _) (fun j hj => hW j _ (.inl (j + 1)) ⟨hj, rfl, rfl⟩) (fun h => absurd h (Nat.lt_irrefl _)) (fun _ => rfl)
    · rintro j X o ⟨_, rfl, _⟩ <;> rfl
    · rintro lr dB rr c' hrd hdf hcx' j X o ⟨hj, rfl, rfl⟩
      · have hbl := hB.len rfl j (by omega)
        have htk : (ns.take j).length = j := by rw [List.length_take]; omega
        refine tri_reg mixed hcx' ?_ _ _
        refine asg rfl ?_
        refine ⟨by kernel_rfl, ?_⟩
        refine nx_begin hrd rfl (sl 3 rfl (sl 8 rfl (sl 9 rfl (sl 10 rfl sn)))) (el 702 rfl (el 701 rfl (el 11 rfl (el 410 rfl (el 510 rfl (el 9 rfl en)))))) ?_
        refine tri_block ?_
        refine tri_seq ?_
        refine tri_seq ?_
        refine tri_reg mixed hcx' ?_ _ _
        refine ld rfl rfl tyZss rfl ?_
        refine lno slZss rfl rfl ?_
        refine ld rfl rfl tyI rfl ?_
        refine ceq rfl rfl (decide_eq_false (by omega)) ?_
        refine ⟨by kernel_rfl, ?_⟩
        refine nx (sl 8 rfl (sl 9 rfl (sl 10 rfl (sl 25 rfl sn)))) (el 702 rfl (el 701 rfl (el 11 rfl (el 410 rfl (el 510 rfl (el 9 rfl en)))))) ?_
        refine tri_false rfl rfl ?_
        refine tri_skip ?_
        refine nx (sl 8 rfl (sl 10 rfl sn)) (el 702 rfl (el 701 rfl (el 11 rfl (el 410 rfl (el 510 rfl (el 9 rfl en)))))) ?_
        refine tri_seq ?_
        refine tri_reg mixed hcx' ?_ _ _
        refine mv rfl ?_
        refine ln slZs rfl ?_
        refine mkz (c := (cZ k)) (n := (ns.getD j []).length) 1012 slZs rfl (by omega) (fun u => ⟨zvZ, zrZ k u⟩) (by decide) ?_
        refine asg rfl ?_
        refine ⟨by kernel_rfl, ?_⟩
        refine nx (sl 8 rfl (sl 10 rfl (sl 11 rfl sn))) (el 702 rfl (el 701 rfl (el 11 rfl (el 410 rfl (el 510 rfl (el 9 rfl (el 1012 rfl en))))))) ?_
        refine tri_seq ?_
        refine tri_seq ?_
        refine tri_reg mixed hcx' ?_ _ _
        refine mv rfl ?_
        refine ln slZs rfl ?_
        refine mv rfl ?_
        refine ⟨by kernel_rfl, ?_⟩
        refine nx (sl 8 rfl (sl 10 rfl (sl 11 rfl (sl 30 rfl (sl 31 rfl sn))))) (el 702 rfl (el 701 rfl (el 11 rfl (el 410 rfl (el 510 rfl (el 9 rfl (el 1012 rfl en))))))) ?_
        refine tri_block ?_
        refine tri_loop (ι := Nat) (fun i => [(8, T.p 410 0), (10, T.l (cZi k) (ns.getD j [])), (11, T.o 1012), (30, T.c (.int .i64 ((ns.getD j []).length : Int))), (31, T.c (.int .i64 (i : Int)))]) (fun i => [(702, some (Ent.ob lr (RecO rr .busy none))), (701, some (Ent.ob dB dfr)), (11, some (Ent.box 3 [T.c (.int .i64 (mo : Int))])), (410, some (Ent.box 22 [T.o 9])), (510, some (Ent.box 4 [T.c (.bool true)])), (9, some (Ent.row (cL (cZ k)) 23 (ns.take j))), (1012, some (Ent.row (cZ k) 32 (fw (ns.getD j []) i)))]) (fun i => (ns.getD j []).length - i) (fun i => (i ≤ (ns.getD j []).length)) 0 (Nat.zero_le _) (sl 8 rfl (sl 10 rfl (sl 11 rfl (sl 30 rfl (sl 31 rfl sn))))) (el 702 rfl (el 701 rfl (el 11 rfl (el 410 rfl (el 510 rfl (el 9 rfl (ew 1012 rfl (.of (by rw [← fw_zero]; rfl)) en))))))) ?_
        rintro i hi
        refine tri_sub (sl 8 rfl (sl 10 rfl (sl 11 rfl (sl 30 rfl (sl 31 rfl sn))))) (el 702 rfl (el 701 rfl (el 11 rfl (el 410 rfl (el 510 rfl (el 9 rfl (el 1012 rfl en))))))) ?_
        have hfl := fw_len (ns.getD j []) hi
        refine tri_seq ?_
        refine tri_reg mixed hcx' ?_ _ _
        refine clt rfl rfl rfl ?_
        refine ⟨by kernel_rfl, ?_⟩
        refine nx (sl 8 rfl (sl 10 rfl (sl 11 rfl (sl 30 rfl (sl 31 rfl (sl 32 rfl sn)))))) (el 702 rfl (el 701 rfl (el 11 rfl (el 410 rfl (el 510 rfl (el 9 rfl (el 1012 rfl en))))))) ?_
        refine tri_seq ?_
        refine tri_if rfl (fun hc => ?_) (fun hc => ?_)
        · have hc2 : i < (ns.getD j []).length := by omega
          refine tri_skip ?_
          refine nx (sl 8 rfl (sl 10 rfl (sl 11 rfl (sl 30 rfl (sl 31 rfl sn))))) (el 702 rfl (el 701 rfl (el 11 rfl (el 410 rfl (el 510 rfl (el 9 rfl (el 1012 rfl en))))))) ?_
          refine tri_seq ?_
          refine tri_block ?_
          refine tri_seq ?_
          refine tri_reg mixed hcx' ?_ _ _
          refine mv rfl ?_
          refine asg rfl ?_
          refine ⟨by kernel_rfl, ?_⟩
          refine nx (sl 8 rfl (sl 10 rfl (sl 11 rfl (sl 12 rfl (sl 30 rfl (sl 31 rfl sn)))))) (el 702 rfl (el 701 rfl (el 11 rfl (el 410 rfl (el 510 rfl (el 9 rfl (el 1012 rfl en))))))) ?_
          refine tri_reg mixed hcx' ?_ _ _
          refine mv rfl ?_
          refine mv rfl ?_
          refine mv rfl ?_
          refine mv rfl ?_
          refine ix rfl rfl slZs ⟨rfl, by omega⟩ ?_
          refine lf rfl tyZ ?_
          refine ca rfl (h := zi_Form (by omega)) (hn := ?_)
          refine ixo rfl rfl rfl slZs ⟨rfl, by omega⟩ ?_
          refine so rfl rfl rfl (.refl _) tyZ ⟨rfl, by omega⟩ ?_
          refine ⟨by kernel_rfl, ?_⟩
          refine pn_blk ?_
          refine nx (sl 8 rfl (sl 10 rfl (sl 11 rfl (sl 30 rfl (sl 31 rfl sn))))) (el 702 rfl (el 701 rfl (el 11 rfl (el 410 rfl (el 510 rfl (el 9 rfl (el 1012 rfl en))))))) ?_
          refine tri_reg mixed hcx' ?_ _ _
          refine ad (((i + 1 : Nat) : Int)) rfl rfl rfl (by omega) ?_
          refine mv rfl ?_
          refine ⟨by kernel_rfl, ?_⟩
          exact pn_back (i + 1) (by first | omega | (dsimp only; omega)) (by omega) (sl 8 rfl (sl 10 rfl (sl 11 rfl (sl 30 rfl (sl 31 rfl sn))))) (el 702 rfl (el 701 rfl (el 11 rfl (el 410 rfl (el 510 rfl (el 9 rfl (ew 1012 rfl (.of (by rw [← fw_set _ hc2]; rfl)) en)))))))
        · refine tri_exit ?_
          repeat (first | refine pn_then ?_ | refine pn_oth (by decide) ?_ | refine pn_sce ?_)
          refine pn_ex ?_
          have hin : i = (ns.getD j []).length := by omega
          refine nx (sl 8 rfl (sl 11 rfl sn)) (el 702 rfl (el 701 rfl (el 11 rfl (el 410 rfl (el 510 rfl (el 9 rfl (el 1012 rfl en))))))) ?_
          refine tri_fz 1012 rfl ?_
          refine tri_rd 11 1012 rfl rfl ?_
          refine tri_as 11 (Z := T.l (cZ k) (ns.getD j [])) rfl (.of (by rw [fw_all _ hin])) ?_
          refine tri_reg mixed hcx' ?_ _ _
          refine ld rfl rfl tyZss rfl ?_
          refine mv rfl ?_
          refine bs (c := cL (cZ k)) (xs := [(ns.getD j [])]) slZss rfl ⟨.refl _, trivial⟩ ?_
          refine ap 1613 rfl rfl rfl slZss (by simp only [List.length_cons, List.length_nil]; omega) (by decide) ?_
          refine st rfl rfl rfl tyZss rfl ?_
          refine ⟨by kernel_rfl, ?_⟩
          refine pn_blk ?_
          refine pn_sub sn (el 702 rfl (el 701 rfl (el 11 rfl (el 410 rfl (el 510 rfl (el 1613 rfl en)))))) ?_
          refine pn_renb (bl := [T.o 1613]) (bl' := [T.o 9]) 410 9 1613 rfl rfl ⟨.inr ⟨rfl, rfl⟩, trivial⟩ (by rw [hcx']; kernel_rfl) rfl ?_
          exact rq_go (el 702 rfl (el 701 rfl (el 11 rfl (el 410 rfl (el 510 rfl (ew 9 rfl (.of (by rw [← take_snoc hj])) en))))))
    · intro lr dB oo
      refine done_go ?_
      refine pn_blk ?_
      refine nx (sl 8 rfl (sl 9 rfl sn)) (el 702 rfl (el 701 rfl (el 11 rfl (el 410 rfl (el 510 rfl (el 9 rfl en)))))) ?_
      refine tri_seq ?_
      refine tri_reg mixed (show (cx.up.put dB).I = _ from hcx) ?_ _ _
      refine ld rfl rfl tyZss rfl ?_
      refine ld rfl rfl tyB rfl ?_
      refine asg rfl ?_
      refine asg rfl ?_
      refine asg rfl ?_
      refine ⟨by kernel_rfl, ?_⟩
      refine nx (sl 4 rfl (sl 5 rfl (sl 6 rfl sn))) (el 702 rfl (el 701 rfl (el 11 rfl (el 410 rfl (el 510 rfl (el 9 rfl en)))))) ?_
      refine tri_fz 9 rfl ?_
      refine tri_rd 4 9 rfl rfl ?_
      refine tri_ret ?_
      repeat (first | refine pn_thenr ?_ | refine pn_blkr ?_ | refine pn_scr ?_)
      refine ret_M1 (.inl rfl) rfl rfl ?_
      exact ret3 hcx rfl (rv_tmp rfl) (rv_tmp rfl) (rv_tmp rfl) (tup_le ⟨.of (by rw [List.take_of_length_le hle, List.take_length]), .of (by rw [decide_eq_true hle]), .refl _, trivial⟩) en

theorem t_Nodes_e {D : List Int} {L : List (List Int)} {ts : List (Int × Int)} {a b : Int} {k : Nat} {mo r : Int} (hr : r ≠ 0) (hf : Fn Tryz.prog 63 [T.Tr D L ts a b k, T.c (.slice none 0 0), T.c (.int .i64 0), T.c (.int .i64 mo)] [] [] [] (T.c (.int .i64 r))) : Fn Tryz.prog 25 [T.Tr D L ts a b k, T.c (.int .i64 mo)] [] [] [] (T.tup [T.c (.slice none 0 0), T.c (.bool false), T.c (.int .i64 r)]) := by
  refine fn_ofM Tryz.func25 rfl (by show 2 ≤ 49; decide) fun cx hcx => ?_
  refine tri_sub (sl 0 rfl (sl 1 rfl sn)) en ?_
  refine tri_seq ?_
  refine tri_reg mixed hcx ?_ _ _
  refine bxs 10 rfl ?_
  refine bx 11 rfl ?_
  refine asg rfl ?_
  refine asg rfl ?_
  refine asg rfl ?_
  refine ⟨by kernel_rfl, ?_⟩
  refine nx (sl 2 rfl (sl 3 rfl sn)) (el 10 rfl (el 11 rfl en)) ?_
  refine tri_scope ?_
  refine tri_seq ?_
  refine tri_seq ?_
  refine tri_reg mixed hcx ?_ _ _
  refine ld rfl rfl tyTr rfl ?_
  refine ld rfl rfl tyI rfl ?_
  refine ca rfl (h := hf) (hn := ?_)
  refine asg rfl ?_
  refine ⟨by kernel_rfl, ?_⟩
  refine nx (sl 2 rfl (sl 3 rfl (sl 7 rfl sn))) (el 10 rfl (el 11 rfl en)) ?_
  refine tri_seq ?_
  refine tri_reg mixed hcx ?_ _ _
  refine mv rfl ?_
  refine cne rfl rfl (decide_eq_true hr) ?_
  refine ⟨by kernel_rfl, ?_⟩
  refine nx (sl 2 rfl (sl 3 rfl (sl 7 rfl (sl 17 rfl sn)))) (el 10 rfl (el 11 rfl en)) ?_
  refine tri_true rfl rfl ?_
  refine tri_seq ?_
  refine tri_reg mixed hcx ?_ _ _
  refine mv rfl ?_
  refine asg rfl ?_
  refine asg rfl ?_
  refine asg rfl ?_
  refine ⟨by kernel_rfl, ?_⟩
  refine nx (sl 4 rfl (sl 5 rfl (sl 6 rfl sn))) (el 10 rfl (el 11 rfl en)) ?_
  refine tri_ret ?_
  repeat (first | refine pn_thenr ?_ | refine pn_blkr ?_ | refine pn_scr ?_)
  refine ret_M0 (.inl rfl) ?_
  exact ret3 hcx rfl (rv_tmp rfl) (rv_tmp rfl) (rv_tmp rfl) (.refl _) en
end Go.Proofs.YtekghdfbhbhigaaGreat.V
/- Search trees: what a node begins with is a node. -/
set_option linter.unusedVariables false
set_option linter.unusedSimpArgs false
set_option maxRecDepth 100000
namespace Go.Proofs.YtekghdfbhbhigaaGreat.V
open Go.RowKit Mt Nml
theorem take_atN {l : List (List Int)} {i m : Nat} (h : i < (l.take m).length) : (l.take m).getD i [] = l.getD i [] := by
  rw [List.length_take] at h
  simp only [List.getD_eq_getElem?_getD, List.getElem?_take]
  rw [if_pos (by omega)]
theorem getD_mem' {l : List (List Int)} {i : Nat} (h : i < l.length) : l.getD i [] ∈ l := by
  rw [List.getD_eq_getElem?_getD, List.getElem?_eq_getElem h]
  exact List.getElem_mem h
/-- What is so of each of the first nodes. -/
theorem Bel.first {D : List Int} {L : List (List Int)} {ts : List (Int × Int)} {n k mo : Nat} {R : Rat} {ns : List (List Int)} (h : Bel D L ts n k R [] 0 ns) {i : Nat} (hi : i < (ns.take mo).length) : Nd D L ts n k R [] ((ns.take mo).getD i []) ∧ Lnk (if i = 0 then [] else (ns.take mo).getD (i - 1) []) ((ns.take mo).getD i []) := by
  have hz : ∀ j, Nml.zl (([] : List Int).getD j 0) ≤ k := fun j => by rw [show (([] : List Int)).getD j 0 = 0 from by simp, zl_zero]; exact Nat.zero_le _
  have hl : i < ns.length := by rw [List.length_take] at hi; omega
  have h1 := h.mem rfl hz _ (getD_mem' hl)
  have h2 := chn_at (h.chn rfl hz) i hl
  rw [take_atN hi]
  refine ⟨h1, ?_⟩
  split
  · rename_i h0
    subst h0
    exact h2
  · rename_i h0
    rw [take_atN (by omega)]
    rwa [if_neg h0] at h2
/-- A suffix less its last number has no greater part. -/
theorem pt_cut {D : List Int} {L : List (List Int)} {ts : List (Int × Int)} {n k : Nat} (h : TrS D L ts n k) {s : List Int} (h1 : 0 < s.length) (h2 : s.length ≤ n) : ptT D L ts (s.take (s.length - 1)) (n - 1) (s.take (s.length - 1)).length ≤ ptT D L ts s (n - 1) s.length := by
  have hp := h.pos
  rw [show (s.take (s.length - 1)).length = s.length - 1 by rw [List.length_take]; omega, ptT_ext (s' := s) (k := s.length - 1) (fun j hj => by rw [take_getD hj])]
  have := pt_mono h s (m := n - 1) (c := s.length - 1) (by omega) (by omega)
  rwa [show s.length - 1 + 1 = s.length by omega] at this

theorem t_gr2 {D : List Int} {L : List (List Int)} {ts : List (Int × Int)} {a b : Int} {n k : Nat} (h : TrS D L ts n k) (hb : 0 < b) (ha : 0 ≤ a) (hDl : D.length ≤ 1048576) (htl : ts.length ≤ 1048576) {ns : List (List Int)} {mo : Nat} (hmo : mo < 256) (hB : Bel D L ts n k ((a : Rat) / (b : Rat)) [] 0 ns) : Fn Tryz.prog 6 [T.Tr D L ts a b k, T.c (.int .u8 (mo : Int))] [] [] [] (T.c (.bool true)) := by
  refine fn_of Tryz.func6 rfl (by show 2 ≤ 144; decide) fun cx hcx => ?_
  refine tri_sub (sl 0 rfl (sl 1 rfl sn)) en ?_
  have hn12 := h.twelve
  have hkk := h.hk
  have hlL := h.len
  have hn0 := h.pos
  have hfst := fun i (hi : i < (ns.take mo).length) => hB.first hi
  have htl2 : (ns.take mo).length ≤ 256 := by rw [List.length_take]; omega
  refine tri_seq ?_
  refine tri_reg mixed hcx ?_ _ _
  refine bxs 10 rfl ?_
  refine asg rfl ?_
  refine ⟨by kernel_rfl, ?_⟩
  refine nx (sl 1 rfl (sl 2 rfl sn)) (el 10 rfl en) ?_
  refine tri_seq ?_
  refine tri_seq ?_
  refine tri_reg mixed hcx ?_ _ _
  refine ca rfl (h := l11_awake) (hn := ?_)
  refine nt rfl _ rfl ?_
  refine ⟨by kernel_rfl, ?_⟩
  refine nx (sl 1 rfl (sl 2 rfl (sl 16 rfl sn))) (el 10 rfl en) ?_
  refine tri_false rfl rfl ?_
  refine tri_skip ?_
  refine nx (sl 1 rfl (sl 2 rfl sn)) (el 10 rfl en) ?_
  refine tri_seq ?_
  refine tri_reg mixed hcx ?_ _ _
  refine ld rfl rfl tyTr rfl ?_
  refine mv rfl ?_
  refine cvt _ rfl cvU8I rfl ⟨rfl, by omega, by omega⟩ ?_
  refine ca rfl (h := t_Nodes h hb ha (by omega) hB) (hn := ?_)
  refine mv rfl ?_
  refine ex rfl rfl ?_
  refine ex rfl rfl ?_
  refine ex rfl rfl ?_
  refine asg rfl ?_
  refine asg rfl ?_
  refine asg rfl ?_
  refine ⟨by kernel_rfl, ?_⟩
  refine nx (sl 2 rfl (sl 5 rfl (sl 7 rfl sn))) (el 10 rfl en) ?_
  refine tri_seq ?_
  refine tri_seq ?_
  refine tri_reg mixed hcx ?_ _ _
  refine ld rfl rfl tyTr rfl ?_
  refine ca rfl (h := r11_Valid7 h.hk (by omega) hDl htl h.good (by omega) (by rw [hlL]; exact h.tl) h.tp hb ha) (hn := ?_)
  refine nt rfl _ rfl ?_
  refine ⟨by kernel_rfl, ?_⟩
  refine nx (sl 2 rfl (sl 5 rfl (sl 7 rfl (sl 27 rfl sn)))) (el 10 rfl en) ?_
  refine tri_false rfl rfl ?_
  refine tri_skip ?_
  refine nx (sl 2 rfl (sl 5 rfl (sl 7 rfl sn))) (el 10 rfl en) ?_
  refine tri_seq ?_
  refine tri_seq ?_
  refine tri_reg mixed hcx ?_ _ _
  refine mv rfl ?_
  refine cne rfl rfl (decide_eq_false (by omega)) ?_
  refine ⟨by kernel_rfl, ?_⟩
  refine nx (sl 2 rfl (sl 5 rfl (sl 36 rfl sn))) (el 10 rfl en) ?_
  refine tri_false rfl rfl ?_
  refine tri_skip ?_
  refine nx (sl 2 rfl (sl 5 rfl sn)) (el 10 rfl en) ?_
  refine tri_seq ?_
  refine tri_seq ?_
  refine tri_reg mixed hcx ?_ _ _
  refine asg rfl ?_
  refine ⟨by kernel_rfl, ?_⟩
  refine nx (sl 2 rfl (sl 5 rfl (sl 8 rfl sn))) (el 10 rfl en) ?_
  refine tri_block ?_
  refine tri_loop (ι := Nat) (fun i => [(2, T.p 10 0), (5, T.l (cL (cZ k)) (ns.take mo)), (8, T.c (.int .i64 (i : Int)))]) (fun i => [(10, some (Ent.box 39 [T.l (cZi k) D, T.l (cL (cZi k)) L, T.l (cQi k) ts, T.Zi a k, T.Zi b k]))]) (fun i => (ns.take mo).length - i) (fun i => (i ≤ (ns.take mo).length)) 0 (Nat.zero_le _) (sl 2 rfl (sl 5 rfl (sl 8 rfl sn))) (el 10 rfl en) ?_
  rintro i hi
  refine tri_sub (sl 2 rfl (sl 5 rfl (sl 8 rfl sn))) (el 10 rfl en) ?_
  refine tri_seq ?_
  refine tri_seq ?_
  refine tri_reg mixed hcx ?_ _ _
  refine mv rfl ?_
  refine mv rfl ?_
  refine ln slZss rfl ?_
  refine clt rfl rfl rfl ?_
  refine ⟨by kernel_rfl, ?_⟩
  refine nx (sl 2 rfl (sl 5 rfl (sl 8 rfl (sl 40 rfl sn)))) (el 10 rfl en) ?_
  refine tri_if rfl (fun hc => ?_) (fun hc => ?_)
  · have hc2 : i < (ns.take mo).length := by omega
    obtain ⟨hnd, hlk⟩ := hfst i hc2
    have hgt : 0 < ((ns.take mo).getD i []).length := hnd.gt
    have hle := hnd.le
    have hl1 := hlk.1
    have hs1 : sg (ptT D L ts (((ns.take mo).getD i []).take (((ns.take mo).getD i []).length - 1)) (n - 1) (((ns.take mo).getD i []).take (((ns.take mo).getD i []).length - 1)).length - ptT D L ts ((ns.take mo).getD i []) (n - 1) ((ns.take mo).getD i []).length).num ≤ 0 := sgq_le.2 (pt_cut h hgt hle)
    have hs2 : sg (ptT D L ts ((ns.take mo).getD i []) (n - 1) ((ns.take mo).getD i []).length - (a : Rat) / (b : Rat)).num ≤ 0 := sgq_le.2 hnd.pt
    refine tri_skip ?_
    refine nx (sl 2 rfl (sl 5 rfl (sl 8 rfl sn))) (el 10 rfl en) ?_
    refine tri_seq ?_
    refine tri_block ?_
    refine tri_seq ?_
    refine tri_reg mixed hcx ?_ _ _
    refine mv rfl ?_
    refine mv rfl ?_
    refine ix rfl rfl slZss ⟨rfl, by omega⟩ ?_
    refine lf rfl tyZs ?_
    refine asg rfl ?_
    refine ⟨by kernel_rfl, ?_⟩
    refine nx (sl 2 rfl (sl 5 rfl (sl 8 rfl (sl 9 rfl sn)))) (el 10 rfl en) ?_
    refine tri_seq ?_
    refine tri_seq ?_
    by_cases h0 : i = 0
    · rw [if_pos h0] at hl1
      have hl2 : ((ns.take mo).getD i []).length = 1 := by have : ([] : List Int).length = 0 := rfl; omega
      refine tri_as 9 (Z := T.l (cZ k) ((ns.take mo).getD i [])) rfl (.refl _) ?_
      refine tri_reg mixed hcx ?_ _ _
      refine mv rfl ?_
      refine ln slZs rfl ?_
      refine ceq rfl rfl (decide_eq_false (by omega)) ?_
      refine mv rfl ?_
      refine mv rfl ?_ (hg := gd1)
      refine ln slZs rfl ?_ (hg := gd1)
      refine fa rfl fTrG 0 ?_ (hg := gd1)
      refine fa rfl fL 1 ?_ (hg := gd1)
      refine ld rfl rfl tyZss rfl ?_ (hg := gd1)
      refine ln slZss rfl ?_ (hg := gd1)
      refine cgt rfl rfl (decide_eq_false (by omega)) ?_ (hg := gd1)
      refine pk rfl rfl ?_
      refine mv rfl ?_
      refine mv rfl ?_ (hg := gd1)
      refine ceq rfl rfl (decide_eq_true (by omega)) ?_ (hg := gd1)
      refine mv rfl ?_ (hg := gd1)
      refine mv rfl ?_ (hg := gd1)
      refine ln slZs rfl ?_ (hg := gd1)
      refine cne rfl rfl (decide_eq_false (by omega)) ?_ (hg := gd1)
      refine pk rfl rfl ?_ (hg := gd1)
      refine pk rfl rfl ?_
      refine mv rfl ?_
      refine mv rfl ?_ (hg := gd1)
      refine cgt rfl rfl (decide_eq_false (by omega)) ?_ (hg := gd1)
      refine mv rfl ?_ (hg := gd1)
      refine j_off rfl rfl rfl rfl ?_
      refine j_off rfl rfl rfl rfl ?_
      refine j_off rfl rfl rfl rfl ?_
      refine j_off rfl rfl rfl rfl ?_
      refine j_off rfl rfl rfl rfl ?_
      refine j_off rfl rfl rfl rfl ?_
      refine j_off rfl rfl rfl rfl ?_
      refine j_off rfl rfl rfl rfl ?_
      refine j_off rfl rfl rfl rfl ?_
      refine j_off rfl rfl rfl rfl ?_
      refine pk rfl rfl ?_ (hg := gd1)
      refine pk rfl rfl ?_
      refine ⟨by kernel_rfl, ?_⟩
      refine nx (sl 2 rfl (sl 5 rfl (sl 8 rfl (sl 9 rfl (sl 83 rfl sn))))) (el 10 rfl en) ?_
      refine tri_false rfl rfl ?_
      refine tri_skip ?_
      refine nx (sl 2 rfl (sl 5 rfl (sl 8 rfl (sl 9 rfl sn)))) (el 10 rfl en) ?_
      refine tri_seq ?_
      refine tri_seq ?_
      refine tri_reg mixed hcx ?_ _ _
      refine asg rfl ?_
      refine ⟨by kernel_rfl, ?_⟩
      refine nx (sl 2 rfl (sl 5 rfl (sl 8 rfl (sl 9 rfl (sl 10 rfl sn))))) (el 10 rfl en) ?_
      refine tri_block ?_
      refine tri_loop (ι := Nat) (fun e => [(2, T.p 10 0), (5, T.l (cL (cZ k)) (ns.take mo)), (8, T.c (.int .i64 (i : Int))), (9, T.l (cZ k) ((ns.take mo).getD i [])), (10, T.c (.int .i64 (e : Int)))]) (fun e => [(10, some (Ent.box 39 [T.l (cZi k) D, T.l (cL (cZi k)) L, T.l (cQi k) ts, T.Zi a k, T.Zi b k]))]) (fun e => ((ns.take mo).getD i []).length - e) (fun e => (e + 1 ≤ ((ns.take mo).getD i []).length)) 0 (by omega) (sl 2 rfl (sl 5 rfl (sl 8 rfl (sl 9 rfl (sl 10 rfl sn))))) (el 10 rfl en) ?_
      rintro e he
      refine tri_sub (sl 2 rfl (sl 5 rfl (sl 8 rfl (sl 9 rfl (sl 10 rfl sn))))) (el 10 rfl en) ?_
      refine tri_seq ?_
      refine tri_seq ?_
      refine tri_reg mixed hcx ?_ _ _
      refine mv rfl ?_
      refine cgt rfl rfl (decide_eq_false (by omega)) ?_
      refine mv rfl ?_
      refine j_off rfl rfl rfl rfl ?_
      refine j_off rfl rfl rfl rfl ?_
      refine j_off rfl rfl rfl rfl ?_
      refine j_off rfl rfl rfl rfl ?_
      refine j_off rfl rfl rfl rfl ?_
      refine pk rfl rfl ?_
      refine ⟨by kernel_rfl, ?_⟩
      refine nx (sl 2 rfl (sl 5 rfl (sl 8 rfl (sl 9 rfl (sl 10 rfl (sl 92 rfl sn)))))) (el 10 rfl en) ?_
      refine tri_false rfl rfl ?_
      refine tri_exit ?_
      repeat (first | refine pn_then ?_ | refine pn_oth (by decide) ?_)
      refine pn_ex ?_
      refine nx (sl 2 rfl (sl 5 rfl (sl 8 rfl (sl 9 rfl sn)))) (el 10 rfl en) ?_
      refine tri_seq ?_
      refine tri_reg mixed hcx ?_ _ _
      refine ld rfl rfl tyTr rfl ?_
      refine mv rfl ?_
      refine ca rfl (h := t_Part (s := ((ns.take mo).getD i [])) h hb ha (by omega)) (hn := ?_)
      refine mv rfl ?_
      refine ex rfl rfl ?_
      refine ex rfl rfl ?_
      refine nw 1916 zeQ ?_
      refine st rfl rfl rfl tyQ rfl ?_
      refine asg rfl ?_
      refine ⟨by kernel_rfl, ?_⟩
      refine nx (sl 2 rfl (sl 5 rfl (sl 8 rfl (sl 9 rfl (sl 11 rfl (sl 12 rfl sn)))))) (el 10 rfl (el 1916 rfl en)) ?_
      refine tri_seq ?_
      refine tri_reg mixed hcx ?_ _ _
      refine ld rfl rfl tyTr rfl ?_
      refine mv rfl ?_
      refine mv rfl ?_
      refine ln slZs rfl ?_
      refine sb (((((ns.take mo).getD i []).length - 1 : Nat) : Int)) rfl rfl rfl (by omega) ?_
      refine sh rfl slZs rfl ⟨rfl, by omega⟩ ?_
      refine ca rfl (h := t_Part (s := ((ns.take mo).getD i []).take (((ns.take mo).getD i []).length - 1)) h hb ha (by rw [List.length_take]; omega)) (hn := ?_)
      refine mv rfl ?_
      refine ex rfl rfl ?_
      refine ex rfl rfl ?_
      refine nw 2020 zeQ ?_
      refine st rfl rfl rfl tyQ rfl ?_
      refine asg rfl ?_
      refine ⟨by kernel_rfl, ?_⟩
      refine nx (sl 2 rfl (sl 5 rfl (sl 8 rfl (sl 11 rfl (sl 12 rfl (sl 13 rfl (sl 14 rfl sn))))))) (el 10 rfl (el 1916 rfl (el 2020 rfl en))) ?_
      refine tri_seq ?_
      refine tri_reg mixed hcx ?_ _ _
      refine mv rfl ?_
      refine cne rfl rfl (decide_eq_false (by omega)) ?_
      refine mv rfl ?_
      refine mv rfl ?_ (hg := gd1)
      refine cne rfl rfl (decide_eq_false (by omega)) ?_ (hg := gd1)
      refine pk rfl rfl ?_
      refine mv rfl ?_
      refine ld rfl rfl tyQ rfl ?_ (hg := gd1)
      refine ld rfl rfl tyQ rfl ?_ (hg := gd1)
      refine cb rfl (h := r3v_Cmp (by omega) (by omega)) (hn := ?_) (hg := gd1)
      refine cgt rfl rfl (decide_eq_false (by omega)) ?_ (hg := gd1)
      refine pk rfl rfl ?_
      refine mv rfl ?_
      refine ld rfl rfl tyQ rfl ?_ (hg := gd1)
      refine fa rfl fTrR 3 ?_ (hg := gd1)
      refine ld rfl rfl tyQ rfl ?_ (hg := gd1)
      refine cb rfl (h := r3v_Cmp (by omega) (by omega)) (hn := ?_) (hg := gd1)
      refine cgt rfl rfl (decide_eq_false (by omega)) ?_ (hg := gd1)
      refine pk rfl rfl ?_
      refine ⟨by kernel_rfl, ?_⟩
      refine nx (sl 2 rfl (sl 5 rfl (sl 8 rfl (sl 143 rfl sn)))) (el 10 rfl (el 1916 rfl (el 2020 rfl en))) ?_
      refine tri_false rfl rfl ?_
      refine tri_skip ?_
      refine pn_blk ?_
      refine nx (sl 2 rfl (sl 5 rfl (sl 8 rfl sn))) (el 10 rfl (el 1916 rfl (el 2020 rfl en))) ?_
      refine tri_reg mixed hcx ?_ _ _
      refine mv rfl ?_
      refine ad (((i + 1 : Nat) : Int)) rfl rfl rfl (by omega) ?_
      refine asg rfl ?_
      refine ⟨by kernel_rfl, ?_⟩
      exact pn_back (i + 1) (by first | omega | (dsimp only; omega)) (by omega) (sl 2 rfl (sl 5 rfl (sl 8 rfl sn))) (el 10 rfl en)
    · rw [if_neg h0] at hl1
      have hpl : ((ns.take mo).getD (i - 1) (cL (cZ k)).dflt).length ≤ n := (hfst (i - 1) (by omega)).1.le
      have hl1d : ((ns.take mo).getD i []).length ≤ ((ns.take mo).getD (i - 1) (cL (cZ k)).dflt).length + 1 := hl1
      have hl3 := hlk.2.2
      rw [if_neg h0] at hl3
      refine tri_as 9 (Z := T.l (cZ k) ((ns.take mo).getD i [])) rfl (.refl _) ?_
      refine tri_reg mixed hcx ?_ _ _
      refine mv rfl ?_
      refine ln slZs rfl ?_
      refine ceq rfl rfl (decide_eq_false (by omega)) ?_
      refine mv rfl ?_
      refine mv rfl ?_ (hg := gd1)
      refine ln slZs rfl ?_ (hg := gd1)
      refine fa rfl fTrG 0 ?_ (hg := gd1)
      refine fa rfl fL 1 ?_ (hg := gd1)
      refine ld rfl rfl tyZss rfl ?_ (hg := gd1)
      refine ln slZss rfl ?_ (hg := gd1)
      refine cgt rfl rfl (decide_eq_false (by omega)) ?_ (hg := gd1)
      refine pk rfl rfl ?_
      refine mv rfl ?_
      refine mv rfl ?_ (hg := gd1)
      refine ceq rfl rfl (decide_eq_false (by omega)) ?_ (hg := gd1)
      refine mv rfl ?_ (hg := gd1)
      refine j_off rfl rfl rfl rfl ?_
      refine j_off rfl rfl rfl rfl ?_
      refine j_off rfl rfl rfl rfl ?_
      refine pk rfl rfl ?_ (hg := gd1)
      refine pk rfl rfl ?_
      refine mv rfl ?_
      refine mv rfl ?_ (hg := gd1)
      refine cgt rfl rfl (decide_eq_true (by omega)) ?_ (hg := gd1)
      refine mv rfl ?_ (hg := gd1)
      refine mv rfl ?_ (hg := gd1)
      refine ln slZs rfl ?_ (hg := gd1)
      refine mv rfl ?_ (hg := gd1)
      refine mv rfl ?_ (hg := gd1)
      refine sb (((i - 1 : Nat) : Int)) rfl rfl rfl (by omega) ?_ (hg := gd1)
      refine ix rfl rfl slZss (i := i - 1) ⟨by omega, by omega⟩ ?_ (hg := gd1)
      refine lf rfl tyZs ?_ (hg := gd1)
      refine ln slZs rfl ?_ (hg := gd1)
      refine ad (((((ns.take mo).getD (i - 1) (cL (cZ k)).dflt).length + 1 : Nat) : Int)) rfl rfl rfl (by omega) ?_ (hg := gd1)
      refine cgt rfl rfl (decide_eq_false (by omega)) ?_ (hg := gd1)
      refine pk rfl rfl ?_ (hg := gd1)
      refine pk rfl rfl ?_
      refine ⟨by kernel_rfl, ?_⟩
      refine nx (sl 2 rfl (sl 5 rfl (sl 8 rfl (sl 9 rfl (sl 83 rfl sn))))) (el 10 rfl en) ?_
      refine tri_false rfl rfl ?_
      refine tri_skip ?_
      refine nx (sl 2 rfl (sl 5 rfl (sl 8 rfl (sl 9 rfl sn)))) (el 10 rfl en) ?_
      refine tri_seq ?_
      refine tri_seq ?_
      refine tri_reg mixed hcx ?_ _ _
      refine asg rfl ?_
      refine ⟨by kernel_rfl, ?_⟩
      refine nx (sl 2 rfl (sl 5 rfl (sl 8 rfl (sl 9 rfl (sl 10 rfl sn))))) (el 10 rfl en) ?_
      refine tri_block ?_
      refine tri_loop (ι := Nat) (fun e => [(2, T.p 10 0), (5, T.l (cL (cZ k)) (ns.take mo)), (8, T.c (.int .i64 (i : Int))), (9, T.l (cZ k) ((ns.take mo).getD i [])), (10, T.c (.int .i64 (e : Int)))]) (fun e => [(10, some (Ent.box 39 [T.l (cZi k) D, T.l (cL (cZi k)) L, T.l (cQi k) ts, T.Zi a k, T.Zi b k]))]) (fun e => ((ns.take mo).getD i []).length - e) (fun e => (e + 1 ≤ ((ns.take mo).getD i []).length)) 0 (by omega) (sl 2 rfl (sl 5 rfl (sl 8 rfl (sl 9 rfl (sl 10 rfl sn))))) (el 10 rfl en) ?_
      rintro e he
      refine tri_sub (sl 2 rfl (sl 5 rfl (sl 8 rfl (sl 9 rfl (sl 10 rfl sn))))) (el 10 rfl en) ?_
      refine tri_seq ?_
      refine tri_seq ?_
      refine tri_reg mixed hcx ?_ _ _
      refine mv rfl ?_
      refine cgt rfl rfl (decide_eq_true (by omega)) ?_
      refine mv rfl ?_
      refine mv rfl ?_ (hg := gd1)
      refine mv rfl ?_ (hg := gd1)
      refine ln slZs rfl ?_ (hg := gd1)
      refine sb (((((ns.take mo).getD i []).length - 1 : Nat) : Int)) rfl rfl rfl (by omega) ?_ (hg := gd1)
      refine clt rfl rfl rfl ?_ (hg := gd1)
      refine pk rfl rfl ?_
      refine ⟨by kernel_rfl, ?_⟩
      refine nx (sl 2 rfl (sl 5 rfl (sl 8 rfl (sl 9 rfl (sl 10 rfl (sl 92 rfl sn)))))) (el 10 rfl en) ?_
      refine tri_if rfl (fun hc3 => ?_) (fun hc3 => ?_)
      · have hee : ((ns.take mo).getD i []).getD e 0 = ((ns.take mo).getD (i - 1) (cL (cZ k)).dflt).getD e (cZ k).dflt := hl3 e (by omega)
        refine tri_skip ?_
        refine nx (sl 2 rfl (sl 5 rfl (sl 8 rfl (sl 9 rfl (sl 10 rfl sn))))) (el 10 rfl en) ?_
        refine tri_seq ?_
        refine tri_block ?_
        refine tri_seq ?_
        refine tri_reg mixed hcx ?_ _ _
        refine mv rfl ?_
        refine mv rfl ?_
        refine ix rfl rfl slZs ⟨rfl, by omega⟩ ?_
        refine lf rfl tyZ ?_
        refine mv rfl ?_
        refine mv rfl ?_
        refine sb (((i - 1 : Nat) : Int)) rfl rfl rfl (by omega) ?_
        refine ix rfl rfl slZss (i := i - 1) ⟨by omega, by omega⟩ ?_
        refine lf rfl tyZs ?_
        refine mv rfl ?_
        refine ix rfl rfl slZs (i := e) ⟨rfl, by omega⟩ ?_
        refine lf rfl tyZ ?_
        refine ca rfl (h := fn_le (As := [T.Z (((ns.take mo).getD i []).getD e 0) k, T.Z (((ns.take mo).getD (i - 1) (cL (cZ k)).dflt).getD e (cZ k).dflt) k]) (l11_whole (z := ((ns.take mo).getD i []).getD e 0) (k := k) (l := k) (by omega)) ⟨.refl _, z_eqz hee.symm (Nat.le_refl _), trivial⟩) (hn := ?_)
        refine nt rfl _ rfl ?_
        refine ⟨by kernel_rfl, ?_⟩
        refine nx (sl 2 rfl (sl 5 rfl (sl 8 rfl (sl 9 rfl (sl 10 rfl (sl 108 rfl sn)))))) (el 10 rfl en) ?_
        refine tri_false rfl rfl ?_
        refine tri_skip ?_
        refine pn_blk ?_
        refine nx (sl 2 rfl (sl 5 rfl (sl 8 rfl (sl 9 rfl (sl 10 rfl sn))))) (el 10 rfl en) ?_
        refine tri_reg mixed hcx ?_ _ _
        refine mv rfl ?_
        refine ad (((e + 1 : Nat) : Int)) rfl rfl rfl (by omega) ?_
        refine asg rfl ?_
        refine ⟨by kernel_rfl, ?_⟩
        exact pn_back (e + 1) (by first | omega | (dsimp only; omega)) (by omega) (sl 2 rfl (sl 5 rfl (sl 8 rfl (sl 9 rfl (sl 10 rfl sn))))) (el 10 rfl en)
      · refine tri_exit ?_
        repeat (first | refine pn_then ?_ | refine pn_oth (by decide) ?_)
        refine pn_ex ?_
        refine nx (sl 2 rfl (sl 5 rfl (sl 8 rfl (sl 9 rfl sn)))) (el 10 rfl en) ?_
        refine tri_seq ?_
        refine tri_reg mixed hcx ?_ _ _
        refine ld rfl rfl tyTr rfl ?_
        refine mv rfl ?_
        refine ca rfl (h := t_Part (s := ((ns.take mo).getD i [])) h hb ha (by omega)) (hn := ?_)
        refine mv rfl ?_
        refine ex rfl rfl ?_
        refine ex rfl rfl ?_
        refine nw 1916 zeQ ?_
        refine st rfl rfl rfl tyQ rfl ?_
        refine asg rfl ?_
        refine ⟨by kernel_rfl, ?_⟩
        refine nx (sl 2 rfl (sl 5 rfl (sl 8 rfl (sl 9 rfl (sl 11 rfl (sl 12 rfl sn)))))) (el 10 rfl (el 1916 rfl en)) ?_
        refine tri_seq ?_
        refine tri_reg mixed hcx ?_ _ _
        refine ld rfl rfl tyTr rfl ?_
        refine mv rfl ?_
        refine mv rfl ?_
        refine ln slZs rfl ?_
        refine sb (((((ns.take mo).getD i []).length - 1 : Nat) : Int)) rfl rfl rfl (by omega) ?_
        refine sh rfl slZs rfl ⟨rfl, by omega⟩ ?_
        refine ca rfl (h := t_Part (s := ((ns.take mo).getD i []).take (((ns.take mo).getD i []).length - 1)) h hb ha (by rw [List.length_take]; omega)) (hn := ?_)
        refine mv rfl ?_
        refine ex rfl rfl ?_
        refine ex rfl rfl ?_
        refine nw 2020 zeQ ?_
        refine st rfl rfl rfl tyQ rfl ?_
        refine asg rfl ?_
        refine ⟨by kernel_rfl, ?_⟩
        refine nx (sl 2 rfl (sl 5 rfl (sl 8 rfl (sl 11 rfl (sl 12 rfl (sl 13 rfl (sl 14 rfl sn))))))) (el 10 rfl (el 1916 rfl (el 2020 rfl en))) ?_
        refine tri_seq ?_
        refine tri_reg mixed hcx ?_ _ _
        refine mv rfl ?_
        refine cne rfl rfl (decide_eq_false (by omega)) ?_
        refine mv rfl ?_
        refine mv rfl ?_ (hg := gd1)
        refine cne rfl rfl (decide_eq_false (by omega)) ?_ (hg := gd1)
        refine pk rfl rfl ?_
        refine mv rfl ?_
        refine ld rfl rfl tyQ rfl ?_ (hg := gd1)
        refine ld rfl rfl tyQ rfl ?_ (hg := gd1)
        refine cb rfl (h := r3v_Cmp (by omega) (by omega)) (hn := ?_) (hg := gd1)
        refine cgt rfl rfl (decide_eq_false (by omega)) ?_ (hg := gd1)
        refine pk rfl rfl ?_
        refine mv rfl ?_
        refine ld rfl rfl tyQ rfl ?_ (hg := gd1)
        refine fa rfl fTrR 3 ?_ (hg := gd1)
        refine ld rfl rfl tyQ rfl ?_ (hg := gd1)
        refine cb rfl (h := r3v_Cmp (by omega) (by omega)) (hn := ?_) (hg := gd1)
        refine cgt rfl rfl (decide_eq_false (by omega)) ?_ (hg := gd1)
        refine pk rfl rfl ?_
        refine ⟨by kernel_rfl, ?_⟩
        refine nx (sl 2 rfl (sl 5 rfl (sl 8 rfl (sl 143 rfl sn)))) (el 10 rfl (el 1916 rfl (el 2020 rfl en))) ?_
        refine tri_false rfl rfl ?_
        refine tri_skip ?_
        refine pn_blk ?_
        refine nx (sl 2 rfl (sl 5 rfl (sl 8 rfl sn))) (el 10 rfl (el 1916 rfl (el 2020 rfl en))) ?_
        refine tri_reg mixed hcx ?_ _ _
        refine mv rfl ?_
        refine ad (((i + 1 : Nat) : Int)) rfl rfl rfl (by omega) ?_
        refine asg rfl ?_
        refine ⟨by kernel_rfl, ?_⟩
        exact pn_back (i + 1) (by first | omega | (dsimp only; omega)) (by omega) (sl 2 rfl (sl 5 rfl (sl 8 rfl sn))) (el 10 rfl en)
  · refine tri_exit ?_
    repeat (first | refine pn_then ?_ | refine pn_oth (by decide) ?_)
    refine pn_ex ?_
    refine nx sn (el 10 rfl en) ?_
    refine tri_seq ?_
    refine tri_reg mixed hcx ?_ _ _
    refine asg rfl ?_
    refine ⟨by kernel_rfl, ?_⟩
    refine nx (sl 4 rfl sn) (el 10 rfl en) ?_
    refine tri_ret ?_
    repeat (first | refine pn_thenr ?_ | refine pn_blkr ?_)
    exact ret1 hcx rfl (rv_tmp rfl) (.refl _) en

theorem t_gr1 {D : List Int} {L : List (List Int)} {ts : List (Int × Int)} {a b : Int} {k : Nat} (hk : k ≤ 16777216) (hLl : L.length ≤ 1048576) (hDl : D.length ≤ 1048576) (htl : ts.length ≤ 1048576) {mo : Nat} (hmo : mo < 256) (hV : ¬ TrV D L ts a b) : Fn Tryz.prog 6 [T.Tr D L ts a b k, T.c (.int .u8 (mo : Int))] [] [] [] (T.c (.bool true)) := by
  refine fn_of Tryz.func6 rfl (by show 2 ≤ 144; decide) fun cx hcx => ?_
  refine tri_sub (sl 0 rfl (sl 1 rfl sn)) en ?_
  refine tri_seq ?_
  refine tri_reg mixed hcx ?_ _ _
  refine bxs 10 rfl ?_
  refine asg rfl ?_
  refine ⟨by kernel_rfl, ?_⟩
  refine nx (sl 1 rfl (sl 2 rfl sn)) (el 10 rfl en) ?_
  refine tri_seq ?_
  refine tri_seq ?_
  refine tri_reg mixed hcx ?_ _ _
  refine ca rfl (h := l11_awake) (hn := ?_)
  refine nt rfl _ rfl ?_
  refine ⟨by kernel_rfl, ?_⟩
  refine nx (sl 1 rfl (sl 2 rfl (sl 16 rfl sn))) (el 10 rfl en) ?_
  refine tri_false rfl rfl ?_
  refine tri_skip ?_
  refine nx (sl 1 rfl (sl 2 rfl sn)) (el 10 rfl en) ?_
  refine tri_seq ?_
  refine tri_reg mixed hcx ?_ _ _
  refine ld rfl rfl tyTr rfl ?_
  refine mv rfl ?_
  refine cvt _ rfl cvU8I rfl ⟨rfl, by omega, by omega⟩ ?_
  refine ca rfl (h := t_Nodes_e (by decide) (fn_le (t_counted_e (s := []) (m := 0) (mo := (mo : Int)) (by decide) (t_fits_bad hk hLl hDl htl hV)) ⟨.refl _, nil_l _, .refl _, .refl _, trivial⟩)) (hn := ?_)
  refine mv rfl ?_
  refine ex rfl rfl ?_
  refine ex rfl rfl ?_
  refine ex rfl rfl ?_
  refine asg rfl ?_
  refine asg rfl ?_
  refine asg rfl ?_
  refine ⟨by kernel_rfl, ?_⟩
  refine nx (sl 2 rfl (sl 5 rfl (sl 7 rfl sn))) (el 10 rfl en) ?_
  refine tri_seq ?_
  refine tri_seq ?_
  refine tri_reg mixed hcx ?_ _ _
  refine ld rfl rfl tyTr rfl ?_
  refine ca rfl (h := r11_Valid_no hk hLl hDl htl hV) (hn := ?_)
  refine nt rfl _ rfl ?_
  refine ⟨by kernel_rfl, ?_⟩
  refine nx (sl 2 rfl (sl 5 rfl (sl 7 rfl (sl 27 rfl sn)))) (el 10 rfl en) ?_
  refine tri_true rfl rfl ?_
  refine tri_seq ?_
  refine tri_reg mixed hcx ?_ _ _
  refine mv rfl ?_
  refine ceq rfl rfl rfl ?_
  refine mv rfl ?_
  refine mv rfl ?_ (hg := gd1)
  refine ln slZss rfl ?_ (hg := gd1)
  refine ceq rfl rfl rfl ?_ (hg := gd1)
  refine pk rfl rfl ?_
  refine asg rfl ?_
  refine ⟨by kernel_rfl, ?_⟩
  refine nx (sl 4 rfl sn) (el 10 rfl en) ?_
  refine tri_ret ?_
  repeat (first | refine pn_thenr ?_ | refine pn_blkr ?_)
  exact ret1 hcx rfl (rv_tmp rfl) (.refl _) en

theorem t_grows {D : List Int} {L : List (List Int)} {ts : List (Int × Int)} {a b : Int} {k mo : Nat} (hk : k ≤ 1048576) (hLl : L.length ≤ 1048576) (hDl : D.length ≤ 1048576) (htl : ts.length ≤ 1048576) (hmo : mo < 256) : Fn Tryz.prog 6 [T.Tr D L ts a b k, T.c (.int .u8 (mo : Int))] [] [] [] (T.c (.bool true)) := fn_trz fun hZ => by
  classical
  by_cases hV : TrV D L ts a b
  · have h := hV.trs hZ (by omega)
    obtain ⟨hG, hn, ht, hd, hb, ha⟩ := hV
    obtain ⟨ns, hB⟩ := Bel.ex (K := 16777216) h (by omega) (Rb.frac hZ.za hb) L.length (s := []) (d := 0) rfl (by omega) (fun j => by rw [show (([] : List Int)).getD j 0 = 0 from by simp, zl_zero]; exact Nat.zero_le _)
    exact fn_le (t_gr2 (h.mono (K := 16777216) (by omega) (Nat.le_refl _)) hb ha hDl htl hmo hB) ⟨tr_mono (by omega), .refl _, trivial⟩
  · exact t_gr1 (by omega) hLl hDl htl hmo hV
end Go.Proofs.YtekghdfbhbhigaaGreat.V
