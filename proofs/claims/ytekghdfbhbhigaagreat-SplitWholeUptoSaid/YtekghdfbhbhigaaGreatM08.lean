/- A tree cut into jobs: Jobs. -/
import Derived.Test.YtekghdfbhbhigaaGreatM07
set_option linter.unusedVariables false
set_option linter.unusedSimpArgs false
set_option maxRecDepth 100000
namespace Go.Proofs.YtekghdfbhbhigaaGreat.V
open Go.RowKit Mt Nml
theorem row_ap' {α : Type} {c : Cod α} {e : TypeId} {l l' : List α} (h : l = l') : (Ent.row c e l).le (Ent.ap c e l') := by subst h; exact row_ap
theorem ap_eq {α : Type} {c : Cod α} {e : TypeId} {l l' : List α} (h : l = l') : (Ent.ap c e l).le (Ent.ap c e l') := by subst h; exact fun _ _ _ _ _ h => h
/-- What comes of cutting a tree. -/
def JRes (k : Nat) (res : Option (List (List Int) × List (List Int))) : T := ⟨[], 0, false, fun β u v => match res with
  | some p => (T.tup [T.l (cL (cZ k)) p.1, T.l (cJ k) p.2, T.c (.int .i64 0)]).rep β u v
  | none => (T.tup [T.c (.slice none 0 0), T.c (.slice none 0 0), T.c (.int .i64 2)]).rep β u v, fun _ h => absurd rfl h, fun hs h => by
    cases res with
    | some p => exact (T.tup _).mono hs h
    | none => exact (T.tup _).mono hs h, fun hn h => by
    cases res with
    | some p => exact (T.tup [T.l (cL (cZ k)) p.1, T.l (cJ k) p.2, T.c (.int .i64 0)]).ext (fun e he => by cases he) h
    | none => exact (T.tup [T.c (.slice none 0 0), T.c (.slice none 0 0), T.c (.int .i64 2)]).ext (fun e he => by cases he) h⟩
theorem jr_some {k : Nat} {d l : List (List Int)} {res : Option (List (List Int) × List (List Int))} (h : res = some (d, l)) : (T.tup [T.l (cL (cZ k)) d, T.l (cJ k) l, T.c (.int .i64 0)]).le (JRes k res) := by subst h; exact fun _ _ _ h => h
theorem jr_none {k : Nat} {res : Option (List (List Int) × List (List Int))} (h : res = none) : (T.tup [T.c (.slice none 0 0), T.c (.slice none 0 0), T.c (.int .i64 2)]).le (JRes k res) := by subst h; exact fun _ _ _ h => h

theorem sp_Jobs {D : List Int} {L : List (List Int)} {ts : List (Int × Int)} {a b : Int} {n k : Nat} (h : TrS D L ts n k) (hb : 0 < b) (ha : 0 ≤ a) {many N : Nat} {dd ll : Nat → List (List Int)} {res : Option (List (List Int) × List (List Int))} (hmany1 : 1 ≤ many) (hmany : many ≤ 4096) (h0 : dd 0 = []) (h1 : ll 0 = [[]]) (hst : ∀ j, j < N → Stp D L ts n k ((a : Rat) / (b : Rat)) many (dd j) (ll j) (dd (j + 1)) (ll (j + 1))) (hend : Sto D L ts n k ((a : Rat) / (b : Rat)) many (dd N) (ll N) res) : Fn Tryz.prog 32 [T.Tr D L ts a b k, T.c (.int .i64 (many : Int))] [] [] [] (JRes k res) := by
  refine fn_of Tryz.func32 rfl (by show 2 ≤ 89; decide) fun cx hcx => ?_
  refine tri_sub (sl 0 rfl (sl 1 rfl sn)) en ?_
  have hn12 := h.twelve
  have hkk := h.hk
  have hlL := h.len
  have hn0 := h.pos
  refine tri_seq ?_
  refine tri_reg mixed hcx ?_ _ _
  refine bxs 10 rfl ?_
  refine asg rfl ?_
  refine asg rfl ?_
  refine asg rfl ?_
  refine ⟨by kernel_rfl, ?_⟩
  refine nx (sl 1 rfl (sl 2 rfl sn)) (el 10 rfl en) ?_
  refine tri_seq ?_
  refine tri_seq ?_
  refine tri_reg mixed hcx ?_ _ _
  refine ld rfl rfl tyTr rfl ?_
  refine ca rfl (h := t_Valid h hb ha) (hn := ?_)
  refine asg rfl ?_
  refine ⟨by kernel_rfl, ?_⟩
  refine nx (sl 1 rfl (sl 2 rfl (sl 7 rfl sn))) (el 10 rfl en) ?_
  refine tri_seq ?_
  refine tri_reg mixed hcx ?_ _ _
  refine mv rfl ?_
  refine cne rfl rfl (decide_eq_false (by omega)) ?_
  refine ⟨by kernel_rfl, ?_⟩
  refine nx (sl 1 rfl (sl 2 rfl (sl 7 rfl (sl 20 rfl sn)))) (el 10 rfl en) ?_
  refine tri_false rfl rfl ?_
  refine tri_skip ?_
  refine nx (sl 1 rfl (sl 2 rfl sn)) (el 10 rfl en) ?_
  refine tri_seq ?_
  refine tri_seq ?_
  refine tri_reg mixed hcx ?_ _ _
  refine mv rfl ?_
  refine clt rfl rfl (decide_eq_false (by omega)) ?_
  refine mv rfl ?_
  refine mv rfl ?_ (hg := gd1)
  refine cgt rfl rfl (decide_eq_false (by omega)) ?_ (hg := gd1)
  refine pk rfl rfl ?_
  refine ⟨by kernel_rfl, ?_⟩
  refine nx (sl 1 rfl (sl 2 rfl (sl 27 rfl sn))) (el 10 rfl en) ?_
  refine tri_false rfl rfl ?_
  refine tri_skip ?_
  refine nx (sl 1 rfl (sl 2 rfl sn)) (el 10 rfl en) ?_
  refine tri_seq ?_
  refine tri_reg mixed hcx ?_ _ _
  refine asg rfl ?_
  refine ⟨by kernel_rfl, ?_⟩
  refine nx (sl 1 rfl (sl 2 rfl (sl 8 rfl sn))) (el 10 rfl en) ?_
  refine tri_seq ?_
  refine tri_reg mixed hcx ?_ _ _
  refine bu stQj rfl ?_
  refine bxs 600 rfl ?_
  refine asg rfl ?_
  refine ⟨by kernel_rfl, ?_⟩
  refine nx (sl 1 rfl (sl 2 rfl (sl 8 rfl (sl 9 rfl sn)))) (el 10 rfl (el 600 rfl en)) ?_
  refine tri_seq ?_
  refine tri_fzb 2 10 rfl rfl (fun h => Nat.noConfusion h) ?_
  refine tri_nil 8 9 23 (cL (cZ k)) rfl (by rw [hcx]; kernel_rfl) ?_
  refine tri_reg mixed hcx ?_ _ _
  refine mv rfl ?_
  refine bu stJb rfl ?_
  refine cae (hE := (el 600 rfl en)) (hl := ⟨.refl _, st_le ⟨nil_l _, trivial⟩, trivial⟩) rfl (h := sp_put0 (l := []) (q := []) (k := k)) (hn := ?_)
  refine ⟨by kernel_rfl, ?_⟩
  refine nx (sl 1 rfl (sl 2 rfl (sl 8 rfl (sl 9 rfl sn)))) (el 9 rfl (el 600 rfl (el 601 rfl en))) ?_
  refine tri_seq ?_
  refine tri_block ?_
  refine tri_loop (ι := Nat) (fun j => [(1, T.c (.int .i64 (many : Int))), (2, T.fp (T.Tr D L ts a b k)), (8, T.o 9), (9, T.p 600 0)]) (fun j => [(9, some (Ent.row (cL (cZ k)) 23 (dd j))), (600, some (Ent.box 123 [T.o 601])), (601, some (Ent.ap (cJ k) 76 (ll j)))]) (fun j => N + 1 - j) (fun j => (j ≤ N)) 0 (Nat.zero_le _) (sl 1 rfl (sl 2 rfl (sl 8 rfl (sl 9 rfl sn)))) (ew 9 rfl (.of (by rw [h0])) (el 600 rfl (ew 601 rfl (row_ap' h1.symm) en))) ?_
  rintro j hj
  refine tri_sub (sl 1 rfl (sl 2 rfl (sl 8 rfl (sl 9 rfl sn)))) (el 9 rfl (el 600 rfl (el 601 rfl en))) ?_
  have h4 : (many ≤ (ll j).length ∧ res = some (dd j, ll j)) ∨ ((ll j).length < many ∧ (∀ i, i < (ll j).length → ¬ ((ll j).getD i []).length < n) ∧ res = some (dd j, ll j)) ∨ (∃ i m, Cut D L ts n k ((a : Rat) / (b : Rat)) many (dd j) (ll j) i m ∧ 65536 < m ∧ res = none) ∨ (j < N ∧ Stp D L ts n k ((a : Rat) / (b : Rat)) many (dd j) (ll j) (dd (j + 1)) (ll (j + 1))) := by
            rcases Nat.lt_or_ge j N with h | h
            · exact .inr (.inr (.inr ⟨h, hst j h⟩))
            · obtain rfl : j = N := by omega
              rcases hend with h | h | h
              · exact .inl h
              · exact .inr (.inl h)
              · exact .inr (.inr (.inl h))
  refine tri_seq ?_
  refine tri_seq ?_
  rcases h4 with ⟨hf, hres⟩ | ⟨hlm, hsh, hres⟩ | ⟨i, m, hcut, hm, hres⟩ | ⟨hlt, i, m, hcut, hm, hdn, hln⟩
  · refine tri_reg mixed hcx ?_ _ _
    refine mv rfl ?_
    refine nk rfl ?_
    refine fa rfl fQjL 0 ?_
    refine ld rfl rfl tyJbs rfl ?_
    refine lna slJbs rfl rfl ?_
    refine mv rfl ?_
    refine clt rfl rfl (decide_eq_false (by omega)) ?_
    refine ⟨by kernel_rfl, ?_⟩
    refine nx (sl 1 rfl (sl 2 rfl (sl 8 rfl (sl 9 rfl (sl 39 rfl sn))))) (el 9 rfl (el 600 rfl (el 601 rfl en))) ?_
    refine tri_false rfl rfl ?_
    refine tri_exit ?_
    repeat (first | refine pn_then ?_ | refine pn_oth (by decide) ?_)
    refine pn_ex ?_
    refine nx (sl 8 rfl (sl 9 rfl sn)) (el 9 rfl (el 600 rfl (el 601 rfl en))) ?_
    refine tri_seq ?_
    refine tri_fza 601 rfl ?_
    refine tri_rdb (bl := [T.o 601]) (bl' := [T.l (cJ k) (ll j)]) 600 601 rfl rfl ⟨.inr ⟨rfl, rfl⟩, trivial⟩ ?_
    refine tri_reg mixed hcx ?_ _ _
    refine mv rfl ?_
    refine mv rfl ?_
    refine nk rfl ?_
    refine fa rfl fQjL 0 ?_
    refine ld rfl rfl tyJbs rfl ?_
    refine asg rfl ?_
    refine asg rfl ?_
    refine asg rfl ?_
    refine ⟨by kernel_rfl, ?_⟩
    refine nx (sl 4 rfl (sl 5 rfl (sl 6 rfl sn))) (el 9 rfl (el 600 rfl en)) ?_
    refine tri_fz 9 rfl ?_
    refine tri_rd 4 9 rfl rfl ?_
    refine tri_ret ?_
    repeat (first | refine pn_thenr ?_ | refine pn_blkr ?_)
    exact ret3 hcx rfl (rv_tmp rfl) (rv_tmp rfl) (rv_tmp rfl) (jr_some hres) en
  · have hshL : ∀ i, i < (ll j).length → ¬ ((ll j).getD i []).length < L.length := by rw [hlL]; exact hsh
    refine tri_reg mixed hcx ?_ _ _
    refine mv rfl ?_
    refine nk rfl ?_
    refine fa rfl fQjL 0 ?_
    refine ld rfl rfl tyJbs rfl ?_
    refine lna slJbs rfl rfl ?_
    refine mv rfl ?_
    refine clt rfl rfl (decide_eq_true (by omega)) ?_
    refine ⟨by kernel_rfl, ?_⟩
    refine nx (sl 1 rfl (sl 2 rfl (sl 8 rfl (sl 9 rfl (sl 39 rfl sn))))) (el 9 rfl (el 600 rfl (el 601 rfl en))) ?_
    refine tri_true rfl rfl ?_
    refine tri_skip ?_
    refine nx (sl 1 rfl (sl 2 rfl (sl 8 rfl (sl 9 rfl sn)))) (el 9 rfl (el 600 rfl (el 601 rfl en))) ?_
    refine tri_block ?_
    refine tri_seq ?_
    refine tri_reg mixed hcx ?_ _ _
    refine mv rfl ?_
    refine mf rfl ?_
    refine cae (hE := (el 600 rfl (el 601 rfl en))) rfl (h := sp_take_no (k := k) (k2 := k) (by omega) hshL) (hn := ?_)
    refine mv rfl ?_
    refine ex rfl rfl ?_
    refine ex rfl rfl ?_
    refine nw 1016 zeJb ?_
    refine sts rfl rfl rfl tyJb rfl ?_
    refine asg rfl ?_
    refine ⟨by kernel_rfl, ?_⟩
    refine nx (sl 1 rfl (sl 2 rfl (sl 8 rfl (sl 9 rfl (sl 10 rfl (sl 11 rfl sn)))))) (el 9 rfl (el 600 rfl (el 1016 rfl en))) ?_
    refine tri_seq ?_
    refine tri_seq ?_
    refine tri_reg mixed hcx ?_ _ _
    refine mv rfl ?_
    refine nt rfl _ rfl ?_
    refine ⟨by kernel_rfl, ?_⟩
    refine nx (sl 1 rfl (sl 2 rfl (sl 8 rfl (sl 9 rfl (sl 10 rfl (sl 47 rfl sn)))))) (el 9 rfl (el 600 rfl (el 1016 rfl en))) ?_
    refine tri_true rfl rfl ?_
    refine tri_exit ?_
    repeat (first | refine pn_then ?_ | refine pn_oth (by decide) ?_)
    refine pn_ex ?_
    refine nx (sl 8 rfl (sl 9 rfl sn)) (el 9 rfl (el 600 rfl (el 1016 rfl en))) ?_
    refine tri_seq ?_
    refine tri_reg mixed hcx ?_ _ _
    refine mv rfl ?_
    refine mv rfl ?_
    refine nk rfl ?_
    refine fa rfl fQjL 0 ?_
    refine ld rfl rfl tyJbs rfl ?_
    refine asg rfl ?_
    refine asg rfl ?_
    refine asg rfl ?_
    refine ⟨by kernel_rfl, ?_⟩
    refine nx (sl 4 rfl (sl 5 rfl (sl 6 rfl sn))) (el 9 rfl (el 600 rfl (el 1016 rfl en))) ?_
    refine tri_fz 9 rfl ?_
    refine tri_rd 4 9 rfl rfl ?_
    refine tri_ret ?_
    repeat (first | refine pn_thenr ?_ | refine pn_blkr ?_)
    exact ret3 hcx rfl (rv_tmp rfl) (rv_tmp rfl) (rv_tmp rfl) (jr_some hres) en
  · have hlm := hcut.lt
    have hoi := hcut.ho
    have hdl := hcut.dl
    have hii := hcut.hi
    have hoL : (((ll j).getD i [])).length < L.length := by omega
    have hcL : ∀ j2, j2 < i → ¬ ((ll j).getD j2 []).length < L.length := fun j2 hj2 => by rw [hlL]; exact hcut.hc j2 hj2
    have hbl : ((ll j).take i ++ (ll j).drop (i + 1)).length + 1 = (ll j).length := by rw [List.length_append, List.length_take, List.length_drop]; omega
    refine tri_reg mixed hcx ?_ _ _
    refine mv rfl ?_
    refine nk rfl ?_
    refine fa rfl fQjL 0 ?_
    refine ld rfl rfl tyJbs rfl ?_
    refine lna slJbs rfl rfl ?_
    refine mv rfl ?_
    refine clt rfl rfl (decide_eq_true (by omega)) ?_
    refine ⟨by kernel_rfl, ?_⟩
    refine nx (sl 1 rfl (sl 2 rfl (sl 8 rfl (sl 9 rfl (sl 39 rfl sn))))) (el 9 rfl (el 600 rfl (el 601 rfl en))) ?_
    refine tri_true rfl rfl ?_
    refine tri_skip ?_
    refine nx (sl 1 rfl (sl 2 rfl (sl 8 rfl (sl 9 rfl sn)))) (el 9 rfl (el 600 rfl (el 601 rfl en))) ?_
    refine tri_block ?_
    refine tri_seq ?_
    refine tri_reg mixed hcx ?_ _ _
    refine mv rfl ?_
    refine mf rfl ?_
    refine cae (hE := (el 600 rfl (el 601 rfl en))) rfl (h := sp_take (k := k) (k2 := k) (i := i) (by omega) hcut.hi hoL hcL) (hn := ?_)
    refine mv rfl ?_
    refine ex rfl rfl ?_
    refine ex rfl rfl ?_
    refine nw 1016 zeJb ?_
    refine sts rfl rfl rfl tyJb rfl ?_
    refine asg rfl ?_
    refine ⟨by kernel_rfl, ?_⟩
    refine nx (sl 1 rfl (sl 2 rfl (sl 8 rfl (sl 9 rfl (sl 10 rfl (sl 11 rfl sn)))))) (el 9 rfl (el 600 rfl (el 602 rfl (el 1016 rfl en)))) ?_
    refine tri_seq ?_
    refine tri_seq ?_
    refine tri_reg mixed hcx ?_ _ _
    refine mv rfl ?_
    refine nt rfl _ rfl ?_
    refine ⟨by kernel_rfl, ?_⟩
    refine nx (sl 1 rfl (sl 2 rfl (sl 8 rfl (sl 9 rfl (sl 10 rfl (sl 47 rfl sn)))))) (el 9 rfl (el 600 rfl (el 602 rfl (el 1016 rfl en)))) ?_
    refine tri_false rfl rfl ?_
    refine tri_skip ?_
    refine nx (sl 1 rfl (sl 2 rfl (sl 8 rfl (sl 9 rfl (sl 10 rfl sn))))) (el 9 rfl (el 600 rfl (el 602 rfl (el 1016 rfl en)))) ?_
    refine tri_seq ?_
    refine tri_seq ?_
    rcases Nat.eq_zero_or_pos ((ll j).getD i []).length with hz | hp
    · refine tri_reg mixed hcx ?_ _ _
      refine fa rfl fJbR 0 ?_
      refine ld rfl rfl tyZs rfl ?_
      refine ln slZs rfl ?_
      refine cgt rfl rfl (decide_eq_false (by omega)) ?_
      refine ⟨by kernel_rfl, ?_⟩
      refine nx (sl 1 rfl (sl 2 rfl (sl 8 rfl (sl 9 rfl (sl 10 rfl (sl 51 rfl sn)))))) (el 9 rfl (el 600 rfl (el 602 rfl (el 1016 rfl en)))) ?_
      refine tri_false rfl rfl ?_
      refine tri_skip ?_
      refine nx (sl 1 rfl (sl 2 rfl (sl 8 rfl (sl 9 rfl (sl 10 rfl sn))))) (el 9 rfl (el 600 rfl (el 602 rfl (el 1016 rfl en)))) ?_
      refine tri_seq ?_
      refine tri_reg mixed hcx ?_ _ _
      refine lf rfl tyTr ?_
      refine fa rfl fJbR 0 ?_
      refine ld rfl rfl tyZs rfl ?_
      refine ca rfl (h := (fn_out (t_Kids (m := m) (mo := 65536) (s := ((ll j).getD i [])) h hb ha (by omega) hcut.kd.zl hcut.kd.w hcut.kd.n (by decide) hcut.wi) (tup_le (l' := [T.l (cZ k) (kl (cq_ D L ts n ((ll j).getD i [])) 65536), T.c (.bool false), T.c (.int .i64 0)]) ⟨.of (by rw [Nat.min_eq_right (by omega)]; rfl), ci_b (decide_eq_false (by omega)), .refl _, trivial⟩))) (hn := ?_)
      refine mv rfl ?_
      refine ex rfl rfl ?_
      refine ex rfl rfl ?_
      refine ex rfl rfl ?_
      refine asg rfl ?_
      refine asg rfl ?_
      refine asg rfl ?_
      refine ⟨by kernel_rfl, ?_⟩
      refine nx (sl 1 rfl (sl 2 rfl (sl 8 rfl (sl 9 rfl (sl 10 rfl (sl 12 rfl (sl 13 rfl (sl 14 rfl sn)))))))) (el 9 rfl (el 600 rfl (el 602 rfl (el 1016 rfl en)))) ?_
      refine tri_seq ?_
      refine tri_seq ?_
      refine tri_reg mixed hcx ?_ _ _
      refine mv rfl ?_
      refine cne rfl rfl (decide_eq_false (by omega)) ?_
      refine ⟨by kernel_rfl, ?_⟩
      refine nx (sl 1 rfl (sl 2 rfl (sl 8 rfl (sl 9 rfl (sl 10 rfl (sl 12 rfl (sl 13 rfl (sl 14 rfl (sl 66 rfl sn))))))))) (el 9 rfl (el 600 rfl (el 602 rfl (el 1016 rfl en)))) ?_
      refine tri_false rfl rfl ?_
      refine tri_skip ?_
      refine nx (sl 1 rfl (sl 2 rfl (sl 8 rfl (sl 9 rfl (sl 10 rfl (sl 12 rfl (sl 13 rfl sn))))))) (el 9 rfl (el 600 rfl (el 602 rfl (el 1016 rfl en)))) ?_
      refine tri_seq ?_
      refine tri_seq ?_
      refine tri_reg mixed hcx ?_ _ _
      refine mv rfl ?_
      refine nt rfl _ rfl ?_
      refine ⟨by kernel_rfl, ?_⟩
      refine nx (sl 1 rfl (sl 2 rfl (sl 8 rfl (sl 9 rfl (sl 10 rfl (sl 12 rfl (sl 69 rfl sn))))))) (el 9 rfl (el 600 rfl (el 602 rfl (el 1016 rfl en)))) ?_
      refine tri_true rfl rfl ?_
      refine tri_seq ?_
      refine tri_reg mixed hcx ?_ _ _
      refine asg rfl ?_
      refine asg rfl ?_
      refine asg rfl ?_
      refine ⟨by kernel_rfl, ?_⟩
      refine nx (sl 4 rfl (sl 5 rfl (sl 6 rfl sn))) (el 9 rfl (el 600 rfl (el 602 rfl (el 1016 rfl en)))) ?_
      refine tri_ret ?_
      repeat (first | refine pn_thenr ?_ | refine pn_blkr ?_)
      exact ret3 hcx rfl (rv_tmp rfl) (rv_tmp rfl) (rv_tmp rfl) (jr_none hres) en
    · refine tri_reg mixed hcx ?_ _ _
      refine fa rfl fJbR 0 ?_
      refine ld rfl rfl tyZs rfl ?_
      refine ln slZs rfl ?_
      refine cgt rfl rfl (decide_eq_true (by omega)) ?_
      refine ⟨by kernel_rfl, ?_⟩
      refine nx (sl 1 rfl (sl 2 rfl (sl 8 rfl (sl 9 rfl (sl 10 rfl (sl 51 rfl sn)))))) (el 9 rfl (el 600 rfl (el 602 rfl (el 1016 rfl en)))) ?_
      refine tri_true rfl rfl ?_
      refine tri_reg mixed hcx ?_ _ _
      refine mv rfl ?_
      refine fa rfl fJbR 0 ?_
      refine ld rfl rfl tyZs rfl ?_
      refine bs (c := cL (cZ k)) (xs := [((ll j).getD i [])]) slZss rfl ⟨.refl _, trivial⟩ ?_
      refine ap 1314 rfl rfl rfl slZss (by simp only [List.length_cons, List.length_nil]; omega) (by decide) ?_
      refine asg rfl ?_
      refine ⟨by kernel_rfl, ?_⟩
      refine nx (sl 1 rfl (sl 2 rfl (sl 8 rfl (sl 9 rfl (sl 10 rfl sn))))) (el 600 rfl (el 602 rfl (el 1016 rfl (el 1314 rfl en)))) ?_
      refine tri_seq ?_
      refine tri_reg mixed hcx ?_ _ _
      refine lf rfl tyTr ?_
      refine fa rfl fJbR 0 ?_
      refine ld rfl rfl tyZs rfl ?_
      refine ca rfl (h := (fn_out (t_Kids (m := m) (mo := 65536) (s := ((ll j).getD i [])) h hb ha (by omega) hcut.kd.zl hcut.kd.w hcut.kd.n (by decide) hcut.wi) (tup_le (l' := [T.l (cZ k) (kl (cq_ D L ts n ((ll j).getD i [])) 65536), T.c (.bool false), T.c (.int .i64 0)]) ⟨.of (by rw [Nat.min_eq_right (by omega)]; rfl), ci_b (decide_eq_false (by omega)), .refl _, trivial⟩))) (hn := ?_)
      refine mv rfl ?_
      refine ex rfl rfl ?_
      refine ex rfl rfl ?_
      refine ex rfl rfl ?_
      refine asg rfl ?_
      refine asg rfl ?_
      refine asg rfl ?_
      refine ⟨by kernel_rfl, ?_⟩
      refine nx (sl 1 rfl (sl 2 rfl (sl 8 rfl (sl 9 rfl (sl 10 rfl (sl 12 rfl (sl 13 rfl (sl 14 rfl sn)))))))) (el 600 rfl (el 602 rfl (el 1016 rfl (el 1314 rfl en)))) ?_
      refine tri_seq ?_
      refine tri_seq ?_
      refine tri_reg mixed hcx ?_ _ _
      refine mv rfl ?_
      refine cne rfl rfl (decide_eq_false (by omega)) ?_
      refine ⟨by kernel_rfl, ?_⟩
      refine nx (sl 1 rfl (sl 2 rfl (sl 8 rfl (sl 9 rfl (sl 10 rfl (sl 12 rfl (sl 13 rfl (sl 14 rfl (sl 66 rfl sn))))))))) (el 600 rfl (el 602 rfl (el 1016 rfl (el 1314 rfl en)))) ?_
      refine tri_false rfl rfl ?_
      refine tri_skip ?_
      refine nx (sl 1 rfl (sl 2 rfl (sl 8 rfl (sl 9 rfl (sl 10 rfl (sl 12 rfl (sl 13 rfl sn))))))) (el 600 rfl (el 602 rfl (el 1016 rfl (el 1314 rfl en)))) ?_
      refine tri_seq ?_
      refine tri_seq ?_
      refine tri_reg mixed hcx ?_ _ _
      refine mv rfl ?_
      refine nt rfl _ rfl ?_
      refine ⟨by kernel_rfl, ?_⟩
      refine nx (sl 1 rfl (sl 2 rfl (sl 8 rfl (sl 9 rfl (sl 10 rfl (sl 12 rfl (sl 69 rfl sn))))))) (el 600 rfl (el 602 rfl (el 1016 rfl (el 1314 rfl en)))) ?_
      refine tri_true rfl rfl ?_
      refine tri_seq ?_
      refine tri_reg mixed hcx ?_ _ _
      refine asg rfl ?_
      refine asg rfl ?_
      refine asg rfl ?_
      refine ⟨by kernel_rfl, ?_⟩
      refine nx (sl 4 rfl (sl 5 rfl (sl 6 rfl sn))) (el 600 rfl (el 602 rfl (el 1016 rfl (el 1314 rfl en)))) ?_
      refine tri_ret ?_
      repeat (first | refine pn_thenr ?_ | refine pn_blkr ?_)
      exact ret3 hcx rfl (rv_tmp rfl) (rv_tmp rfl) (rv_tmp rfl) (jr_none hres) en
  · have hlm := hcut.lt
    have hoi := hcut.ho
    have hdl := hcut.dl
    have hii := hcut.hi
    have hoL : (((ll j).getD i [])).length < L.length := by omega
    have hcL : ∀ j2, j2 < i → ¬ ((ll j).getD j2 []).length < L.length := fun j2 hj2 => by rw [hlL]; exact hcut.hc j2 hj2
    have hbl : ((ll j).take i ++ (ll j).drop (i + 1)).length + 1 = (ll j).length := by rw [List.length_append, List.length_take, List.length_drop]; omega
    refine tri_reg mixed hcx ?_ _ _
    refine mv rfl ?_
    refine nk rfl ?_
    refine fa rfl fQjL 0 ?_
    refine ld rfl rfl tyJbs rfl ?_
    refine lna slJbs rfl rfl ?_
    refine mv rfl ?_
    refine clt rfl rfl (decide_eq_true (by omega)) ?_
    refine ⟨by kernel_rfl, ?_⟩
    refine nx (sl 1 rfl (sl 2 rfl (sl 8 rfl (sl 9 rfl (sl 39 rfl sn))))) (el 9 rfl (el 600 rfl (el 601 rfl en))) ?_
    refine tri_true rfl rfl ?_
    refine tri_skip ?_
    refine nx (sl 1 rfl (sl 2 rfl (sl 8 rfl (sl 9 rfl sn)))) (el 9 rfl (el 600 rfl (el 601 rfl en))) ?_
    refine tri_block ?_
    refine tri_seq ?_
    refine tri_reg mixed hcx ?_ _ _
    refine mv rfl ?_
    refine mf rfl ?_
    refine cae (hE := (el 600 rfl (el 601 rfl en))) rfl (h := sp_take (k := k) (k2 := k) (i := i) (by omega) hcut.hi hoL hcL) (hn := ?_)
    refine mv rfl ?_
    refine ex rfl rfl ?_
    refine ex rfl rfl ?_
    refine nw 1016 zeJb ?_
    refine sts rfl rfl rfl tyJb rfl ?_
    refine asg rfl ?_
    refine ⟨by kernel_rfl, ?_⟩
    refine nx (sl 1 rfl (sl 2 rfl (sl 8 rfl (sl 9 rfl (sl 10 rfl (sl 11 rfl sn)))))) (el 9 rfl (el 600 rfl (el 602 rfl (el 1016 rfl en)))) ?_
    refine tri_seq ?_
    refine tri_seq ?_
    refine tri_reg mixed hcx ?_ _ _
    refine mv rfl ?_
    refine nt rfl _ rfl ?_
    refine ⟨by kernel_rfl, ?_⟩
    refine nx (sl 1 rfl (sl 2 rfl (sl 8 rfl (sl 9 rfl (sl 10 rfl (sl 47 rfl sn)))))) (el 9 rfl (el 600 rfl (el 602 rfl (el 1016 rfl en)))) ?_
    refine tri_false rfl rfl ?_
    refine tri_skip ?_
    refine nx (sl 1 rfl (sl 2 rfl (sl 8 rfl (sl 9 rfl (sl 10 rfl sn))))) (el 9 rfl (el 600 rfl (el 602 rfl (el 1016 rfl en)))) ?_
    refine tri_seq ?_
    refine tri_seq ?_
    rcases Nat.eq_zero_or_pos ((ll j).getD i []).length with hz | hp
    · refine tri_reg mixed hcx ?_ _ _
      refine fa rfl fJbR 0 ?_
      refine ld rfl rfl tyZs rfl ?_
      refine ln slZs rfl ?_
      refine cgt rfl rfl (decide_eq_false (by omega)) ?_
      refine ⟨by kernel_rfl, ?_⟩
      refine nx (sl 1 rfl (sl 2 rfl (sl 8 rfl (sl 9 rfl (sl 10 rfl (sl 51 rfl sn)))))) (el 9 rfl (el 600 rfl (el 602 rfl (el 1016 rfl en)))) ?_
      refine tri_false rfl rfl ?_
      refine tri_skip ?_
      refine nx (sl 1 rfl (sl 2 rfl (sl 8 rfl (sl 9 rfl (sl 10 rfl sn))))) (el 9 rfl (el 600 rfl (el 602 rfl (el 1016 rfl en)))) ?_
      refine tri_seq ?_
      refine tri_reg mixed hcx ?_ _ _
      refine lf rfl tyTr ?_
      refine fa rfl fJbR 0 ?_
      refine ld rfl rfl tyZs rfl ?_
      refine ca rfl (h := (fn_out (t_Kids (m := m) (mo := 65536) (s := ((ll j).getD i [])) h hb ha (by omega) hcut.kd.zl hcut.kd.w hcut.kd.n (by decide) hcut.wi) (tup_le (l' := [T.l (cZ k) (kl (cq_ D L ts n ((ll j).getD i [])) m), T.c (.bool true), T.c (.int .i64 0)]) ⟨.of (by rw [Nat.min_eq_left (by omega)]; rfl), ci_b (decide_eq_true (by omega)), .refl _, trivial⟩))) (hn := ?_)
      refine mv rfl ?_
      refine ex rfl rfl ?_
      refine ex rfl rfl ?_
      refine ex rfl rfl ?_
      refine asg rfl ?_
      refine asg rfl ?_
      refine asg rfl ?_
      refine ⟨by kernel_rfl, ?_⟩
      refine nx (sl 1 rfl (sl 2 rfl (sl 8 rfl (sl 9 rfl (sl 10 rfl (sl 12 rfl (sl 13 rfl (sl 14 rfl sn)))))))) (el 9 rfl (el 600 rfl (el 602 rfl (el 1016 rfl en)))) ?_
      refine tri_seq ?_
      refine tri_seq ?_
      refine tri_reg mixed hcx ?_ _ _
      refine mv rfl ?_
      refine cne rfl rfl (decide_eq_false (by omega)) ?_
      refine ⟨by kernel_rfl, ?_⟩
      refine nx (sl 1 rfl (sl 2 rfl (sl 8 rfl (sl 9 rfl (sl 10 rfl (sl 12 rfl (sl 13 rfl (sl 14 rfl (sl 66 rfl sn))))))))) (el 9 rfl (el 600 rfl (el 602 rfl (el 1016 rfl en)))) ?_
      refine tri_false rfl rfl ?_
      refine tri_skip ?_
      refine nx (sl 1 rfl (sl 2 rfl (sl 8 rfl (sl 9 rfl (sl 10 rfl (sl 12 rfl (sl 13 rfl sn))))))) (el 9 rfl (el 600 rfl (el 602 rfl (el 1016 rfl en)))) ?_
      refine tri_seq ?_
      refine tri_seq ?_
      refine tri_reg mixed hcx ?_ _ _
      refine mv rfl ?_
      refine nt rfl _ rfl ?_
      refine ⟨by kernel_rfl, ?_⟩
      refine nx (sl 1 rfl (sl 2 rfl (sl 8 rfl (sl 9 rfl (sl 10 rfl (sl 12 rfl (sl 69 rfl sn))))))) (el 9 rfl (el 600 rfl (el 602 rfl (el 1016 rfl en)))) ?_
      refine tri_false rfl rfl ?_
      refine tri_skip ?_
      refine nx (sl 1 rfl (sl 2 rfl (sl 8 rfl (sl 9 rfl (sl 10 rfl (sl 12 rfl sn)))))) (el 9 rfl (el 600 rfl (el 602 rfl (el 1016 rfl en)))) ?_
      refine tri_seq ?_
      refine tri_reg mixed hcx ?_ _ _
      refine mv rfl ?_
      refine ln slZs rfl ?_
      refine mv rfl ?_
      refine ⟨by kernel_rfl, ?_⟩
      refine nx (sl 1 rfl (sl 2 rfl (sl 8 rfl (sl 9 rfl (sl 10 rfl (sl 70 rfl (sl 71 rfl (sl 72 rfl sn)))))))) (el 9 rfl (el 600 rfl (el 602 rfl (el 1016 rfl en)))) ?_
      refine tri_block ?_
      refine tri_loop (ι := Nat) (fun e => [(1, T.c (.int .i64 (many : Int))), (2, T.fp (T.Tr D L ts a b k)), (8, T.o 9), (9, T.p 600 0), (10, T.p 1016 0), (70, T.l (cZ k) (kl (cq_ D L ts n ((ll j).getD i [])) m)), (71, T.c (.int .i64 ((kl (cq_ D L ts n ((ll j).getD i [])) m).length : Int))), (72, T.c (.int .i64 (e : Int)))]) (fun e => [(9, some (Ent.row (cL (cZ k)) 23 (dd j))), (600, some (Ent.box 123 [T.o 602])), (602, some (Ent.ap (cJ k) 76 ((ll j).take i ++ (ll j).drop (i + 1) ++ kdL D L ts n ((ll j).getD i []) e))), (1016, some (Ent.box 76 [T.l (cZ k) ((ll j).getD i [])]))]) (fun e => m - e) (fun e => (e ≤ m)) 0 (Nat.zero_le _) (sl 1 rfl (sl 2 rfl (sl 8 rfl (sl 9 rfl (sl 10 rfl (sl 70 rfl (sl 71 rfl (sl 72 rfl sn)))))))) (el 9 rfl (el 600 rfl (ew 602 rfl (ap_eq (List.append_nil _).symm) (el 1016 rfl en)))) ?_
      rintro e he
      refine tri_sub (sl 1 rfl (sl 2 rfl (sl 8 rfl (sl 9 rfl (sl 10 rfl (sl 70 rfl (sl 71 rfl (sl 72 rfl sn)))))))) (el 9 rfl (el 600 rfl (el 602 rfl (el 1016 rfl en)))) ?_
      have hkd := @kdL_len D L ts n ((ll j).getD i []) e
      have hkl := @kl_len (cq_ D L ts n ((ll j).getD i [])) m
      refine tri_seq ?_
      refine tri_reg mixed hcx ?_ _ _
      refine clt rfl rfl rfl ?_
      refine ⟨by kernel_rfl, ?_⟩
      refine nx (sl 1 rfl (sl 2 rfl (sl 8 rfl (sl 9 rfl (sl 10 rfl (sl 70 rfl (sl 71 rfl (sl 72 rfl (sl 73 rfl sn))))))))) (el 9 rfl (el 600 rfl (el 602 rfl (el 1016 rfl en)))) ?_
      refine tri_seq ?_
      refine tri_if rfl (fun hc3 => ?_) (fun hc3 => ?_)
      · have hc4 : e < m := by omega
        have hke : (kl (cq_ D L ts n ((ll j).getD i [])) m).getD e (cZ k).dflt = nth (cq_ D L ts n ((ll j).getD i [])) e := kl_at hc4
        refine tri_skip ?_
        refine nx (sl 1 rfl (sl 2 rfl (sl 8 rfl (sl 9 rfl (sl 10 rfl (sl 70 rfl (sl 71 rfl (sl 72 rfl sn)))))))) (el 9 rfl (el 600 rfl (el 602 rfl (el 1016 rfl en)))) ?_
        refine tri_seq ?_
        refine tri_block ?_
        refine tri_seq ?_
        refine tri_reg mixed hcx ?_ _ _
        refine ix rfl rfl slZs ⟨rfl, by omega⟩ ?_
        refine lf rfl tyZ ?_
        refine nw 2112 zeZ ?_
        refine st rfl rfl rfl tyZ rfl ?_
        refine ⟨by kernel_rfl, ?_⟩
        refine nx (sl 1 rfl (sl 2 rfl (sl 8 rfl (sl 9 rfl (sl 10 rfl (sl 16 rfl (sl 70 rfl (sl 71 rfl (sl 72 rfl sn))))))))) (el 9 rfl (el 600 rfl (el 602 rfl (el 1016 rfl (el 2112 rfl en))))) ?_
        refine tri_reg mixed hcx ?_ _ _
        refine mv rfl ?_
        refine fa rfl fJbR 0 ?_
        refine ld rfl rfl tyZs rfl ?_
        refine ld rfl rfl tyZ rfl ?_
        refine ca rfl (h := (fn_out (sp_longer (x := (kl (cq_ D L ts n ((ll j).getD i [])) m).getD e (cZ k).dflt) (k := k) (by omega) (by omega)) (.of (by rw [hke])))) (hn := ?_)
        refine bu stJb rfl ?_
        refine cae (hE := (el 600 rfl (el 602 rfl en))) rfl (h := sp_put2 (l := (ll j).take i ++ (ll j).drop (i + 1) ++ kdL D L ts n ((ll j).getD i []) e) (q := (((ll j).getD i []) ++ [nth (cq_ D L ts n ((ll j).getD i [])) e])) (by rw [List.length_append]; omega)) (hn := ?_)
        refine ⟨by kernel_rfl, ?_⟩
        refine pn_blk ?_
        refine nx (sl 1 rfl (sl 2 rfl (sl 8 rfl (sl 9 rfl (sl 10 rfl (sl 70 rfl (sl 71 rfl (sl 72 rfl sn)))))))) (el 9 rfl (el 1016 rfl (el 2112 rfl (el 600 rfl (el 603 rfl en))))) ?_
        refine tri_reg mixed hcx ?_ _ _
        refine ad (((e + 1 : Nat) : Int)) rfl rfl rfl (by omega) ?_
        refine mv rfl ?_
        refine ⟨by kernel_rfl, ?_⟩
        refine pn_sub (sl 1 rfl (sl 2 rfl (sl 8 rfl (sl 9 rfl (sl 10 rfl (sl 70 rfl (sl 71 rfl (sl 72 rfl sn)))))))) (el 9 rfl (el 600 rfl (el 603 rfl (el 1016 rfl en)))) ?_
        refine pn_renb (bl := [T.o 603]) (bl' := [T.o 602]) 600 602 603 rfl rfl ⟨.inr ⟨rfl, rfl⟩, trivial⟩ (by rw [hcx]; kernel_rfl) rfl ?_
        exact pn_back (e + 1) (by first | omega | (dsimp only; omega)) (by omega) (sl 1 rfl (sl 2 rfl (sl 8 rfl (sl 9 rfl (sl 10 rfl (sl 70 rfl (sl 71 rfl (sl 72 rfl sn)))))))) (el 9 rfl (el 600 rfl (ew 602 rfl (row_ap' (by rw [List.append_assoc, kdL_succ])) (el 1016 rfl en))))
      · refine tri_exit ?_
        repeat (first | refine pn_then ?_ | refine pn_oth (by decide) ?_)
        refine pn_ex ?_
        have hem : e = m := by omega
        refine pn_blk ?_
        refine pn_sub (sl 1 rfl (sl 2 rfl (sl 8 rfl (sl 9 rfl sn)))) (el 9 rfl (el 600 rfl (el 602 rfl en))) ?_
        refine pn_rena (bl := [T.o 602]) (bl' := [T.o 601]) 600 601 602 rfl rfl ⟨.inr ⟨rfl, rfl⟩, trivial⟩ (by rw [hcx]; kernel_rfl) rfl rfl ?_
        exact pn_back (j + 1) (by first | omega | (dsimp only; omega)) (by omega) (sl 1 rfl (sl 2 rfl (sl 8 rfl (sl 9 rfl sn)))) (ew 9 rfl (.of (by rw [hdn, if_pos hz])) (el 600 rfl (ew 601 rfl (ap_eq (by rw [hln, hem])) en)))
    · refine tri_reg mixed hcx ?_ _ _
      refine fa rfl fJbR 0 ?_
      refine ld rfl rfl tyZs rfl ?_
      refine ln slZs rfl ?_
      refine cgt rfl rfl (decide_eq_true (by omega)) ?_
      refine ⟨by kernel_rfl, ?_⟩
      refine nx (sl 1 rfl (sl 2 rfl (sl 8 rfl (sl 9 rfl (sl 10 rfl (sl 51 rfl sn)))))) (el 9 rfl (el 600 rfl (el 602 rfl (el 1016 rfl en)))) ?_
      refine tri_true rfl rfl ?_
      refine tri_reg mixed hcx ?_ _ _
      refine mv rfl ?_
      refine fa rfl fJbR 0 ?_
      refine ld rfl rfl tyZs rfl ?_
      refine bs (c := cL (cZ k)) (xs := [((ll j).getD i [])]) slZss rfl ⟨.refl _, trivial⟩ ?_
      refine ap 1314 rfl rfl rfl slZss (by simp only [List.length_cons, List.length_nil]; omega) (by decide) ?_
      refine asg rfl ?_
      refine ⟨by kernel_rfl, ?_⟩
      refine nx (sl 1 rfl (sl 2 rfl (sl 8 rfl (sl 9 rfl (sl 10 rfl sn))))) (el 600 rfl (el 602 rfl (el 1016 rfl (el 1314 rfl en)))) ?_
      refine tri_seq ?_
      refine tri_reg mixed hcx ?_ _ _
      refine lf rfl tyTr ?_
      refine fa rfl fJbR 0 ?_
      refine ld rfl rfl tyZs rfl ?_
      refine ca rfl (h := (fn_out (t_Kids (m := m) (mo := 65536) (s := ((ll j).getD i [])) h hb ha (by omega) hcut.kd.zl hcut.kd.w hcut.kd.n (by decide) hcut.wi) (tup_le (l' := [T.l (cZ k) (kl (cq_ D L ts n ((ll j).getD i [])) m), T.c (.bool true), T.c (.int .i64 0)]) ⟨.of (by rw [Nat.min_eq_left (by omega)]; rfl), ci_b (decide_eq_true (by omega)), .refl _, trivial⟩))) (hn := ?_)
      refine mv rfl ?_
      refine ex rfl rfl ?_
      refine ex rfl rfl ?_
      refine ex rfl rfl ?_
      refine asg rfl ?_
      refine asg rfl ?_
      refine asg rfl ?_
      refine ⟨by kernel_rfl, ?_⟩
      refine nx (sl 1 rfl (sl 2 rfl (sl 8 rfl (sl 9 rfl (sl 10 rfl (sl 12 rfl (sl 13 rfl (sl 14 rfl sn)))))))) (el 600 rfl (el 602 rfl (el 1016 rfl (el 1314 rfl en)))) ?_
      refine tri_seq ?_
      refine tri_seq ?_
      refine tri_reg mixed hcx ?_ _ _
      refine mv rfl ?_
      refine cne rfl rfl (decide_eq_false (by omega)) ?_
      refine ⟨by kernel_rfl, ?_⟩
      refine nx (sl 1 rfl (sl 2 rfl (sl 8 rfl (sl 9 rfl (sl 10 rfl (sl 12 rfl (sl 13 rfl (sl 14 rfl (sl 66 rfl sn))))))))) (el 600 rfl (el 602 rfl (el 1016 rfl (el 1314 rfl en)))) ?_
      refine tri_false rfl rfl ?_
      refine tri_skip ?_
      refine nx (sl 1 rfl (sl 2 rfl (sl 8 rfl (sl 9 rfl (sl 10 rfl (sl 12 rfl (sl 13 rfl sn))))))) (el 600 rfl (el 602 rfl (el 1016 rfl (el 1314 rfl en)))) ?_
      refine tri_seq ?_
      refine tri_seq ?_
      refine tri_reg mixed hcx ?_ _ _
      refine mv rfl ?_
      refine nt rfl _ rfl ?_
      refine ⟨by kernel_rfl, ?_⟩
      refine nx (sl 1 rfl (sl 2 rfl (sl 8 rfl (sl 9 rfl (sl 10 rfl (sl 12 rfl (sl 69 rfl sn))))))) (el 600 rfl (el 602 rfl (el 1016 rfl (el 1314 rfl en)))) ?_
      refine tri_false rfl rfl ?_
      refine tri_skip ?_
      refine nx (sl 1 rfl (sl 2 rfl (sl 8 rfl (sl 9 rfl (sl 10 rfl (sl 12 rfl sn)))))) (el 600 rfl (el 602 rfl (el 1016 rfl (el 1314 rfl en)))) ?_
      refine tri_seq ?_
      refine tri_reg mixed hcx ?_ _ _
      refine mv rfl ?_
      refine ln slZs rfl ?_
      refine mv rfl ?_
      refine ⟨by kernel_rfl, ?_⟩
      refine nx (sl 1 rfl (sl 2 rfl (sl 8 rfl (sl 9 rfl (sl 10 rfl (sl 70 rfl (sl 71 rfl (sl 72 rfl sn)))))))) (el 600 rfl (el 602 rfl (el 1016 rfl (el 1314 rfl en)))) ?_
      refine tri_block ?_
      refine tri_loop (ι := Nat) (fun e => [(1, T.c (.int .i64 (many : Int))), (2, T.fp (T.Tr D L ts a b k)), (8, T.o 1314), (9, T.p 600 0), (10, T.p 1016 0), (70, T.l (cZ k) (kl (cq_ D L ts n ((ll j).getD i [])) m)), (71, T.c (.int .i64 ((kl (cq_ D L ts n ((ll j).getD i [])) m).length : Int))), (72, T.c (.int .i64 (e : Int)))]) (fun e => [(1314, some (Ent.row (cL (cZ k)) 23 (dd j ++ [((ll j).getD i [])]))), (600, some (Ent.box 123 [T.o 602])), (602, some (Ent.ap (cJ k) 76 ((ll j).take i ++ (ll j).drop (i + 1) ++ kdL D L ts n ((ll j).getD i []) e))), (1016, some (Ent.box 76 [T.l (cZ k) ((ll j).getD i [])]))]) (fun e => m - e) (fun e => (e ≤ m)) 0 (Nat.zero_le _) (sl 1 rfl (sl 2 rfl (sl 8 rfl (sl 9 rfl (sl 10 rfl (sl 70 rfl (sl 71 rfl (sl 72 rfl sn)))))))) (el 1314 rfl (el 600 rfl (ew 602 rfl (ap_eq (List.append_nil _).symm) (el 1016 rfl en)))) ?_
      rintro e he
      refine tri_sub (sl 1 rfl (sl 2 rfl (sl 8 rfl (sl 9 rfl (sl 10 rfl (sl 70 rfl (sl 71 rfl (sl 72 rfl sn)))))))) (el 1314 rfl (el 600 rfl (el 602 rfl (el 1016 rfl en)))) ?_
      have hkd := @kdL_len D L ts n ((ll j).getD i []) e
      have hkl := @kl_len (cq_ D L ts n ((ll j).getD i [])) m
      refine tri_seq ?_
      refine tri_reg mixed hcx ?_ _ _
      refine clt rfl rfl rfl ?_
      refine ⟨by kernel_rfl, ?_⟩
      refine nx (sl 1 rfl (sl 2 rfl (sl 8 rfl (sl 9 rfl (sl 10 rfl (sl 70 rfl (sl 71 rfl (sl 72 rfl (sl 73 rfl sn))))))))) (el 1314 rfl (el 600 rfl (el 602 rfl (el 1016 rfl en)))) ?_
      refine tri_seq ?_
      refine tri_if rfl (fun hc3 => ?_) (fun hc3 => ?_)
      · have hc4 : e < m := by omega
        have hke : (kl (cq_ D L ts n ((ll j).getD i [])) m).getD e (cZ k).dflt = nth (cq_ D L ts n ((ll j).getD i [])) e := kl_at hc4
        refine tri_skip ?_
        refine nx (sl 1 rfl (sl 2 rfl (sl 8 rfl (sl 9 rfl (sl 10 rfl (sl 70 rfl (sl 71 rfl (sl 72 rfl sn)))))))) (el 1314 rfl (el 600 rfl (el 602 rfl (el 1016 rfl en)))) ?_
        refine tri_seq ?_
        refine tri_block ?_
        refine tri_seq ?_
        refine tri_reg mixed hcx ?_ _ _
        refine ix rfl rfl slZs ⟨rfl, by omega⟩ ?_
        refine lf rfl tyZ ?_
        refine nw 2112 zeZ ?_
        refine st rfl rfl rfl tyZ rfl ?_
        refine ⟨by kernel_rfl, ?_⟩
        refine nx (sl 1 rfl (sl 2 rfl (sl 8 rfl (sl 9 rfl (sl 10 rfl (sl 16 rfl (sl 70 rfl (sl 71 rfl (sl 72 rfl sn))))))))) (el 1314 rfl (el 600 rfl (el 602 rfl (el 1016 rfl (el 2112 rfl en))))) ?_
        refine tri_reg mixed hcx ?_ _ _
        refine mv rfl ?_
        refine fa rfl fJbR 0 ?_
        refine ld rfl rfl tyZs rfl ?_
        refine ld rfl rfl tyZ rfl ?_
        refine ca rfl (h := (fn_out (sp_longer (x := (kl (cq_ D L ts n ((ll j).getD i [])) m).getD e (cZ k).dflt) (k := k) (by omega) (by omega)) (.of (by rw [hke])))) (hn := ?_)
        refine bu stJb rfl ?_
        refine cae (hE := (el 600 rfl (el 602 rfl en))) rfl (h := sp_put2 (l := (ll j).take i ++ (ll j).drop (i + 1) ++ kdL D L ts n ((ll j).getD i []) e) (q := (((ll j).getD i []) ++ [nth (cq_ D L ts n ((ll j).getD i [])) e])) (by rw [List.length_append]; omega)) (hn := ?_)
        refine ⟨by kernel_rfl, ?_⟩
        refine pn_blk ?_
        refine nx (sl 1 rfl (sl 2 rfl (sl 8 rfl (sl 9 rfl (sl 10 rfl (sl 70 rfl (sl 71 rfl (sl 72 rfl sn)))))))) (el 1314 rfl (el 1016 rfl (el 2112 rfl (el 600 rfl (el 603 rfl en))))) ?_
        refine tri_reg mixed hcx ?_ _ _
        refine ad (((e + 1 : Nat) : Int)) rfl rfl rfl (by omega) ?_
        refine mv rfl ?_
        refine ⟨by kernel_rfl, ?_⟩
        refine pn_sub (sl 1 rfl (sl 2 rfl (sl 8 rfl (sl 9 rfl (sl 10 rfl (sl 70 rfl (sl 71 rfl (sl 72 rfl sn)))))))) (el 1314 rfl (el 600 rfl (el 603 rfl (el 1016 rfl en)))) ?_
        refine pn_renb (bl := [T.o 603]) (bl' := [T.o 602]) 600 602 603 rfl rfl ⟨.inr ⟨rfl, rfl⟩, trivial⟩ (by rw [hcx]; kernel_rfl) rfl ?_
        exact pn_back (e + 1) (by first | omega | (dsimp only; omega)) (by omega) (sl 1 rfl (sl 2 rfl (sl 8 rfl (sl 9 rfl (sl 10 rfl (sl 70 rfl (sl 71 rfl (sl 72 rfl sn)))))))) (el 1314 rfl (el 600 rfl (ew 602 rfl (row_ap' (by rw [List.append_assoc, kdL_succ])) (el 1016 rfl en))))
      · refine tri_exit ?_
        repeat (first | refine pn_then ?_ | refine pn_oth (by decide) ?_)
        refine pn_ex ?_
        have hem : e = m := by omega
        refine pn_blk ?_
        refine pn_sub (sl 1 rfl (sl 2 rfl (sl 8 rfl (sl 9 rfl sn)))) (el 1314 rfl (el 600 rfl (el 602 rfl (el 1016 rfl en)))) ?_
        refine pn_ren 8 9 1314 rfl rfl (by rw [hcx]; kernel_rfl) ?_
        refine pn_sub (sl 1 rfl (sl 2 rfl (sl 8 rfl (sl 9 rfl sn)))) (el 9 rfl (el 600 rfl (el 602 rfl en))) ?_
        refine pn_rena (bl := [T.o 602]) (bl' := [T.o 601]) 600 601 602 rfl rfl ⟨.inr ⟨rfl, rfl⟩, trivial⟩ (by rw [hcx]; kernel_rfl) rfl rfl ?_
        exact pn_back (j + 1) (by first | omega | (dsimp only; omega)) (by omega) (sl 1 rfl (sl 2 rfl (sl 8 rfl (sl 9 rfl sn)))) (ew 9 rfl (.of (by rw [hdn, if_neg (by omega)])) (el 600 rfl (ew 601 rfl (ap_eq (by rw [hln, hem])) en)))
end Go.Proofs.YtekghdfbhbhigaaGreat.V
/- A tree cut into jobs: the document's Jobs. -/
set_option linter.unusedVariables false
set_option linter.unusedSimpArgs false
set_option maxRecDepth 100000
namespace Go.Proofs.YtekghdfbhbhigaaGreat.V
open Go.RowKit Mt Nml
end Go.Proofs.YtekghdfbhbhigaaGreat.V
/- A tree cut into jobs: the law. -/
set_option linter.unusedVariables false
set_option linter.unusedSimpArgs false
set_option maxRecDepth 100000
namespace Go.Proofs.YtekghdfbhbhigaaGreat.V
open Go.RowKit Mt Nml
theorem jr_out {k : Nat} {d l : List (List Int)} : (JRes k (some (d, l))).le (T.tup [T.l (cL (cZ k)) d, T.l (cJ k) l, T.c (.int .i64 0)]) := fun _ _ _ h => h
theorem jr_out0 {k : Nat} : (JRes k none).le (T.tup [T.c (.slice none 0 0), T.c (.slice none 0 0), T.c (.int .i64 2)]) := fun _ _ _ h => h
/-- How large lists of jobs get. -/
theorem trace_b {D : List Int} {L : List (List Int)} {ts : List (Int × Int)} {n k : Nat} {R : Rat} {many N : Nat} {dd ll : Nat → List (List Int)} (hmany : many ≤ 4096) (h0 : dd 0 = []) (h1 : ll 0 = [[]]) (hst : ∀ j, j < N → Stp D L ts n k R many (dd j) (ll j) (dd (j + 1)) (ll (j + 1))) : ∀ j, j ≤ N → ((ll j).length ≤ 100000 ∧ ∀ q ∈ ll j, q.length ≤ n) ∧ (dd j).length ≤ 100001 ∧ ∀ q ∈ dd j, q.length ≤ n
  | 0, _ => by
    rw [h0, h1]
    exact ⟨⟨by decide, fun q hq => by rw [List.mem_singleton.1 hq]; exact Nat.zero_le _⟩, by decide, fun q hq => by cases hq⟩
  | j + 1, hj => by
    obtain ⟨⟨a1, a2⟩, a3, a4⟩ := trace_b hmany h0 h1 hst j (by omega)
    obtain ⟨i, m, hc, hm, hd, hl⟩ := hst j (by omega)
    have hmem : (ll j).getD i [] ∈ ll j := getD_mem' hc.hi
    rw [hd, hl]
    refine ⟨⟨?_, fun q hq => ?_⟩, ?_, fun q hq => ?_⟩
    · have := hc.lt; have := hc.hi
      rw [List.length_append, List.length_append, List.length_take, List.length_drop, kdL_len]
      omega
    · rcases List.mem_append.1 hq with hq | hq
      · rcases List.mem_append.1 hq with hq | hq
        · exact a2 q (List.mem_of_mem_take hq)
        · exact a2 q (List.mem_of_mem_drop hq)
      · unfold kdL at hq
        obtain ⟨e, _, rfl⟩ := List.mem_map.1 hq
        have := hc.ho
        rw [List.length_append]
        show _ + 1 ≤ n
        omega
    · have := hc.dl
      split
      · omega
      · simp; omega
    · split at hq
      · exact a4 q hq
      · rcases List.mem_append.1 hq with hq | hq
        · exact a4 q hq
        · rw [List.mem_singleton.1 hq]; have := hc.ho; omega
theorem len_at {l : List (List Int)} {n i : Nat} (h : ∀ q ∈ l, q.length ≤ n) (hn : n ≤ 1048576) : i < l.length → (l.getD i []).length ≤ 1048576 := fun hi => Nat.le_trans (h _ (getD_mem' hi)) hn

theorem l13_n {z : Int} (h0 : -9223372036854775808 ≤ z) (h1 : z < 9223372036854775808) : Fn Tryz.prog 133 [T.c (.int .i64 z)] [] [] [] (T.Z z 2) := by
  refine fn_of Tryz.func133 rfl (by show 1 ≤ 5; decide) fun cx hcx => ?_
  refine tri_sub (sl 0 rfl sn) en ?_
  refine tri_seq ?_
  refine tri_reg mixed hcx ?_ _ _
  refine nw 10 zeZ ?_
  refine ⟨by kernel_rfl, ?_⟩
  refine nx (sl 0 rfl (sl 2 rfl sn)) (el 10 rfl en) ?_
  refine tri_seq ?_
  refine tri_reg mixed hcx ?_ _ _
  refine mv rfl ?_
  refine ca rfl (h := r02_Of h0 h1) (hn := ?_)
  refine st rfl rfl rfl tyZ rfl ?_
  refine ⟨by kernel_rfl, ?_⟩
  refine nx (sl 2 rfl sn) (el 10 rfl en) ?_
  refine tri_ret ?_
  repeat (first | refine pn_thenr ?_ | refine pn_blkr ?_)
  exact ret1 hcx rfl (rv_cell (c' := cx) (n := 0) rfl rfl tyZ rfl) (.refl _) en

theorem l13_small  : Fn Tryz.prog 84 [] [] [] [] (T.Tr [1, 1, 1] [[], [0]] [] 1 1 2) := by
  refine fn_of Tryz.func84 rfl (by show 0 ≤ 14; decide) fun cx hcx => ?_
  refine tri_sub sn en ?_
  refine tri_seq ?_
  refine tri_reg mixed hcx ?_ _ _
  refine nw 10 zeTr ?_
  refine ⟨by kernel_rfl, ?_⟩
  refine nx (sl 0 rfl sn) (el 10 rfl en) ?_
  refine tri_seq ?_
  refine tri_reg mixed hcx ?_ _ _
  refine ca rfl (h := l13_n (by decide) (by decide)) (hn := ?_)
  refine ca rfl (h := l13_n (by decide) (by decide)) (hn := ?_)
  refine ca rfl (h := l13_n (by decide) (by decide)) (hn := ?_)
  refine bs (c := cZ 2) (xs := [1, 1, 1]) slZs rfl ⟨.refl _, .refl _, .refl _, trivial⟩ ?_
  refine bs0 (cZ 2) slZs ?_
  refine ca rfl (h := l13_n (by decide) (by decide)) (hn := ?_)
  refine bs (c := cZ 2) (xs := [0]) slZs rfl ⟨.refl _, trivial⟩ ?_
  refine bs (c := cL (cZ 2)) (xs := [[], [0]]) slZss rfl ⟨.refl _, .refl _, trivial⟩ ?_
  refine bu stG rfl ?_
  refine ca rfl (h := l13_n (by decide) (by decide)) (hn := ?_)
  refine ca rfl (h := l13_n (by decide) (by decide)) (hn := ?_)
  refine bu stQ rfl ?_
  refine bu stTr rfl ?_
  refine sts rfl rfl rfl tyTr rfl ?_
  refine ⟨by kernel_rfl, ?_⟩
  refine nx (sl 0 rfl sn) (el 10 rfl en) ?_
  refine tri_ret ?_
  repeat (first | refine pn_thenr ?_ | refine pn_blkr ?_)
  exact ret1 hcx rfl (rv_cell (c' := cx) (n := 0) rfl rfl tyTr rfl) (tr_flat.trans (st_le ⟨IsL.le (c := cZi 2), IsL.le (c := cL (cZi 2)), nil_l _, z_zi _ _, z_zi _ _, trivial⟩)) en

theorem chk_kd {s : List Int} {m : Nat} (h : chk s s.length m = true) : Kd D0 L0 [] 2 2 (((1 : Int) : Rat) / ((1 : Int) : Rat)) s m := by
  have hj : ∀ j, j ≤ m → (-9 ≤ nth (ctT D0 L0 [] s (2 - 1) (2 - 1 - s.length) s.length) j ∧ nth (ctT D0 L0 [] s (2 - 1) (2 - 1 - s.length) s.length) j ≤ 9) ∧ (ptT D0 L0 [] (s ++ [nth (ctT D0 L0 [] s (2 - 1) (2 - 1 - s.length) s.length) j]) (2 - 1) (s.length + 1) ≤ ((1 : Int) : Rat) / ((1 : Int) : Rat) ↔ j < m) := fun j hj => by
    have := List.all_eq_true.1 h j (by simp; omega)
    simp only [Bool.and_eq_true, decide_eq_true_eq, beq_iff_eq] at this
    obtain ⟨⟨a, b⟩, c⟩ := this
    exact ⟨⟨a, b⟩, decide_eq_decide.1 c⟩
  exact ⟨fun j h => zl_of (by have := (hj j h).1; show -9223372036854775808 ≤ nth (ctT D0 L0 [] s (2 - 1) (2 - 1 - s.length) s.length) j; omega) (by have := (hj j h).1; show nth (ctT D0 L0 [] s (2 - 1) (2 - 1 - s.length) s.length) j < _; omega), fun j h => (hj j (by omega)).2.2 h, fun h => absurd ((hj m (Nat.le_refl _)).2.1 h) (Nat.lt_irrefl _)⟩
def sdd : Nat → List (List Int)
  | 0 => []
  | 1 => []
  | _ => [[0]]
def sll : Nat → List (List Int)
  | 0 => [[]]
  | 1 => [[0], [1], [-1]]
  | _ => [[1], [-1], [0, 0], [0, 1], [0, -1]]
theorem small_st : ∀ j, j < 2 → Stp D0 L0 [] 2 2 (((1 : Int) : Rat) / ((1 : Int) : Rat)) 4 (sdd j) (sll j) (sdd (j + 1)) (sll (j + 1)) := fun j hj => by
  match j, hj with
  | 0, _ => exact ⟨0, 3, ⟨by decide, by decide, by decide, fun j hj => absurd hj (Nat.not_lt_zero _), by unfold Wi; decide +kernel, chk_kd (by decide +kernel), by decide⟩, by decide, by decide +kernel, by decide +kernel⟩
  | 1, _ => exact ⟨0, 3, ⟨by decide, by decide, by decide, fun j hj => absurd hj (Nat.not_lt_zero _), by unfold Wi; decide +kernel, chk_kd (by decide +kernel), by decide⟩, by decide, by decide +kernel, by decide +kernel⟩

theorem sp_Jobs4 : Fn Tryz.prog 32 [T.Tr D0 L0 [] 1 1 2, T.c (.int .i64 4)] [] [] [] (T.tup [T.l (cL (cZ 2)) [[0]], T.l (cJ 2) [[1], [-1], [0, 0], [0, 1], [0, -1]], T.c (.int .i64 0)]) :=
  fn_out (sp_Jobs small_T (a := 1) (b := 1) (by decide) (by decide) (many := 4) (N := 2) (dd := sdd) (ll := sll) (by decide) (by decide) rfl rfl small_st (.inl ⟨by decide, rfl⟩)) jr_out

theorem l13_awake  : Fn Tryz.prog 33 [] [] [] [] (T.c (.bool true)) := by
  refine fn_of Tryz.func33 rfl (by show 0 ≤ 30; decide) fun cx hcx => ?_
  refine tri_sub sn en ?_
  refine tri_seq ?_
  refine tri_reg mixed hcx ?_ _ _
  refine asg rfl ?_
  refine ⟨by kernel_rfl, ?_⟩
  refine nx sn en ?_
  refine tri_seq ?_
  refine tri_reg mixed hcx ?_ _ _
  refine ca rfl (h := l13_small) (hn := ?_)
  refine ca rfl (h := sp_Jobs4) (hn := ?_)
  refine mv rfl ?_
  refine ex rfl rfl ?_
  refine ex rfl rfl ?_
  refine ex rfl rfl ?_
  refine asg rfl ?_
  refine asg rfl ?_
  refine asg rfl ?_
  refine ⟨by kernel_rfl, ?_⟩
  refine nx (sl 1 rfl (sl 2 rfl (sl 3 rfl sn))) en ?_
  refine tri_seq ?_
  refine tri_reg mixed hcx ?_ _ _
  refine mv rfl ?_
  refine ceq rfl rfl rfl ?_
  refine mv rfl ?_
  refine mv rfl ?_ (hg := gd1)
  refine ln slZss rfl ?_ (hg := gd1)
  refine ceq rfl rfl rfl ?_ (hg := gd1)
  refine pk rfl rfl ?_
  refine mv rfl ?_
  refine mv rfl ?_ (hg := gd1)
  refine ln slJbs rfl ?_ (hg := gd1)
  refine ceq rfl rfl rfl ?_ (hg := gd1)
  refine pk rfl rfl ?_
  refine mv rfl ?_
  refine mv rfl ?_ (hg := gd1)
  refine ix rfl rfl slJbs ⟨(rfl : _ = ((4 : Nat) : Int)), by decide⟩ ?_ (hg := gd1)
  refine ff rfl fJbR rfl ?_ (hg := gd1)
  refine lf rfl tyZs ?_ (hg := gd1)
  refine ln slZs rfl ?_ (hg := gd1)
  refine ceq rfl rfl rfl ?_ (hg := gd1)
  refine pk rfl rfl ?_
  refine asg rfl ?_
  refine ⟨by kernel_rfl, ?_⟩
  refine nx (sl 0 rfl sn) en ?_
  refine tri_ret ?_
  repeat (first | refine pn_thenr ?_ | refine pn_blkr ?_)
  exact ret1 hcx rfl (rv_tmp rfl) (.refl _) en

theorem sp_Jobs_e {D : List Int} {L : List (List Int)} {ts : List (Int × Int)} {a b many r : Int} {k : Nat} (hr : r ≠ 0) (hv : Fn Tryz.prog 79 [T.Tr D L ts a b k] [] [] [] (T.c (.int .i64 r))) : Fn Tryz.prog 32 [T.Tr D L ts a b k, T.c (.int .i64 many)] [] [] [] (T.tup [T.c (.slice none 0 0), T.c (.slice none 0 0), T.c (.int .i64 r)]) := by
  refine fn_of Tryz.func32 rfl (by show 2 ≤ 89; decide) fun cx hcx => ?_
  refine tri_sub (sl 0 rfl (sl 1 rfl sn)) en ?_
  refine tri_seq ?_
  refine tri_reg mixed hcx ?_ _ _
  refine bxs 10 rfl ?_
  refine asg rfl ?_
  refine asg rfl ?_
  refine asg rfl ?_
  refine ⟨by kernel_rfl, ?_⟩
  refine nx (sl 1 rfl (sl 2 rfl sn)) (el 10 rfl en) ?_
  refine tri_seq ?_
  refine tri_seq ?_
  refine tri_reg mixed hcx ?_ _ _
  refine ld rfl rfl tyTr rfl ?_
  refine ca rfl (h := hv) (hn := ?_)
  refine asg rfl ?_
  refine ⟨by kernel_rfl, ?_⟩
  refine nx (sl 1 rfl (sl 2 rfl (sl 7 rfl sn))) (el 10 rfl en) ?_
  refine tri_seq ?_
  refine tri_reg mixed hcx ?_ _ _
  refine mv rfl ?_
  refine cne rfl rfl (decide_eq_true hr) ?_
  refine ⟨by kernel_rfl, ?_⟩
  refine nx (sl 1 rfl (sl 2 rfl (sl 7 rfl (sl 20 rfl sn)))) (el 10 rfl en) ?_
  refine tri_true rfl rfl ?_
  refine tri_seq ?_
  refine tri_reg mixed hcx ?_ _ _
  refine mv rfl ?_
  refine asg rfl ?_
  refine asg rfl ?_
  refine asg rfl ?_
  refine ⟨by kernel_rfl, ?_⟩
  refine nx (sl 4 rfl (sl 5 rfl (sl 6 rfl sn))) (el 10 rfl en) ?_
  refine tri_ret ?_
  repeat (first | refine pn_thenr ?_ | refine pn_blkr ?_)
  exact ret3 hcx rfl (rv_tmp rfl) (rv_tmp rfl) (rv_tmp rfl) (.refl _) en

end Go.Proofs.YtekghdfbhbhigaaGreat.V
/- A search tree cut into jobs: no root begins another one. -/
set_option linter.unusedVariables false
set_option maxRecDepth 100000
namespace Go.Proofs.YtekghdfbhbhigaaGreat.V
open Go.RowKit Mt Nml
/-- b begins with a. -/
def Bgn (a b : List Int) : Prop := a.length ≤ b.length ∧ ∀ j, j < a.length → a.getD j 0 = b.getD j 0
theorem nth_inj {c : Rat} {i j : Nat} (h : nth c i = nth c j) : i = j := by
  unfold nth at h
  simp only [eq_iff_iff] at h
  by_cases h0 : ((nea c : Int) : Rat) ≤ c
  · simp only [h0, iff_true] at h
    split at h <;> split at h <;> omega
  · simp only [h0, iff_false] at h
    split at h <;> split at h <;> omega
theorem Bgn.cut {q r : List Int} {x : Int} (h : Bgn (q ++ [x]) r) : Bgn q r := by
  obtain ⟨h1, h2⟩ := h
  simp only [List.length_append, List.length_cons, List.length_nil] at h1 h2
  refine ⟨by omega, fun j hj => ?_⟩
  rw [← h2 j (by omega), getD_snoc', if_neg (by omega)]
theorem Bgn.snoc {q r : List Int} {x : Int} (h : Bgn r (q ++ [x])) : Bgn r q ∨ Bgn q r := by
  obtain ⟨h1, h2⟩ := h
  simp only [List.length_append, List.length_cons, List.length_nil] at h1
  rcases Nat.lt_or_ge q.length r.length with hl | hl
  · exact .inr ⟨by omega, fun j hj => by rw [h2 j (by omega), getD_snoc', if_neg (by omega)]⟩
  · exact .inl ⟨hl, fun j hj => by rw [h2 j hj, getD_snoc', if_neg (by omega)]⟩
end Go.Proofs.YtekghdfbhbhigaaGreat.V
/- A tree cut into jobs: no root begins another one. -/
set_option linter.unusedVariables false
set_option linter.unusedSimpArgs false
set_option maxRecDepth 100000
namespace Go.Proofs.YtekghdfbhbhigaaGreat.V
open Go.RowKit Mt Nml
theorem cvU16I : Cv Tryz.prog 77 3 .i64 := ⟨by kernel_rfl, by kernel_rfl⟩

theorem r13_Bg1 {p q : List Int} {k : Nat} (hp : p.length ≤ 1048576) (hq : q.length ≤ 1048576) (hk : k ≤ 1099511627776) (h : q.length < p.length) : Fn Tryz.prog 88 [T.l (cZ k) p, T.l (cZ k) q] [] [] [] (T.c (.bool false)) := by
  refine fn_of Tryz.func88 rfl (by show 2 ≤ 27; decide) fun cx hcx => ?_
  refine tri_sub (sl 0 rfl (sl 1 rfl sn)) en ?_
  refine tri_seq ?_
  refine tri_reg mixed hcx ?_ _ _
  refine asg rfl ?_
  refine ⟨by kernel_rfl, ?_⟩
  refine nx (sl 0 rfl (sl 1 rfl sn)) en ?_
  refine tri_seq ?_
  refine tri_seq ?_
  refine tri_reg mixed hcx ?_ _ _
  refine mv rfl ?_
  refine ln slZs rfl ?_
  refine mv rfl ?_
  refine ln slZs rfl ?_
  refine cgt rfl rfl (decide_eq_true (by omega)) ?_
  refine ⟨by kernel_rfl, ?_⟩
  refine nx (sl 0 rfl (sl 1 rfl (sl 10 rfl sn))) en ?_
  refine tri_true rfl rfl ?_
  refine tri_seq ?_
  refine tri_reg mixed hcx ?_ _ _
  refine asg rfl ?_
  refine ⟨by kernel_rfl, ?_⟩
  refine nx (sl 4 rfl sn) en ?_
  refine tri_ret ?_
  repeat (first | refine pn_thenr ?_ | refine pn_blkr ?_)
  exact ret1 hcx rfl (rv_tmp rfl) (.refl _) en

theorem r13_Bg2 {p q : List Int} {k : Nat} (hp : p.length ≤ 1048576) (hq : q.length ≤ 1048576) (hk : k ≤ 1099511627776) (h : p.length ≤ q.length) {w : Nat} (hw : w < p.length) (hw1 : p.getD w 0 ≠ q.getD w 0) (hw2 : ∀ i, i < w → p.getD i 0 = q.getD i 0) : Fn Tryz.prog 88 [T.l (cZ k) p, T.l (cZ k) q] [] [] [] (T.c (.bool false)) := by
  refine fn_of Tryz.func88 rfl (by show 2 ≤ 27; decide) fun cx hcx => ?_
  refine tri_sub (sl 0 rfl (sl 1 rfl sn)) en ?_
  refine tri_seq ?_
  refine tri_reg mixed hcx ?_ _ _
  refine asg rfl ?_
  refine ⟨by kernel_rfl, ?_⟩
  refine nx (sl 0 rfl (sl 1 rfl sn)) en ?_
  refine tri_seq ?_
  refine tri_seq ?_
  refine tri_reg mixed hcx ?_ _ _
  refine mv rfl ?_
  refine ln slZs rfl ?_
  refine mv rfl ?_
  refine ln slZs rfl ?_
  refine cgt rfl rfl (decide_eq_false (by omega)) ?_
  refine ⟨by kernel_rfl, ?_⟩
  refine nx (sl 0 rfl (sl 1 rfl (sl 10 rfl sn))) en ?_
  refine tri_false rfl rfl ?_
  refine tri_skip ?_
  refine nx (sl 0 rfl (sl 1 rfl sn)) en ?_
  refine tri_seq ?_
  refine tri_seq ?_
  refine tri_reg mixed hcx ?_ _ _
  refine asg rfl ?_
  refine ⟨by kernel_rfl, ?_⟩
  refine nx (sl 0 rfl (sl 1 rfl (sl 5 rfl sn))) en ?_
  refine tri_block ?_
  refine tri_loop (ι := Nat) (fun i => [(0, T.l (cZ k) p), (1, T.l (cZ k) q), (5, T.c (.int .i64 (i : Int)))]) (fun i => []) (fun i => p.length - i) (fun i => (i ≤ w)) 0 (Nat.zero_le _) (sl 0 rfl (sl 1 rfl (sl 5 rfl sn))) en ?_
  rintro i hi
  refine tri_sub (sl 0 rfl (sl 1 rfl (sl 5 rfl sn))) en ?_
  refine tri_seq ?_
  refine tri_seq ?_
  refine tri_reg mixed hcx ?_ _ _
  refine mv rfl ?_
  refine mv rfl ?_
  refine ln slZs rfl ?_
  refine clt rfl rfl (decide_eq_true (by omega)) ?_
  refine ⟨by kernel_rfl, ?_⟩
  refine nx (sl 0 rfl (sl 1 rfl (sl 5 rfl (sl 14 rfl sn)))) en ?_
  refine tri_true rfl rfl ?_
  refine tri_skip ?_
  refine nx (sl 0 rfl (sl 1 rfl (sl 5 rfl sn))) en ?_
  refine tri_seq ?_
  refine tri_block ?_
  refine tri_seq ?_
  rcases Nat.eq_or_lt_of_le hi with heq | hlt
  · obtain rfl : i = w := heq
    have hne : (p.getD i (cZ k).dflt) ≠ (q.getD i (cZ k).dflt) := hw1
    have hsn : sgnc (p.getD i (cZ k).dflt) (q.getD i (cZ k).dflt) ≠ 0 := by unfold sgnc; split <;> (try split) <;> omega
    refine tri_reg mixed hcx ?_ _ _
    refine mv rfl ?_
    refine mv rfl ?_
    refine ix rfl rfl slZs ⟨rfl, by omega⟩ ?_
    refine lf rfl tyZ ?_
    refine mv rfl ?_
    refine mv rfl ?_
    refine ix rfl rfl slZs ⟨rfl, by omega⟩ ?_
    refine lf rfl tyZ ?_
    refine ca rfl (h := r02_Cmp (by omega) (by omega)) (hn := ?_)
    refine cne rfl rfl (decide_eq_true (by omega)) ?_
    refine ⟨by kernel_rfl, ?_⟩
    refine nx (sl 0 rfl (sl 1 rfl (sl 5 rfl (sl 26 rfl sn)))) en ?_
    refine tri_true rfl rfl ?_
    refine tri_seq ?_
    refine tri_reg mixed hcx ?_ _ _
    refine asg rfl ?_
    refine ⟨by kernel_rfl, ?_⟩
    refine nx (sl 4 rfl sn) en ?_
    refine tri_ret ?_
    repeat (first | refine pn_thenr ?_ | refine pn_blkr ?_)
    exact ret1 hcx rfl (rv_tmp rfl) (.refl _) en
  · have heq2 : (p.getD i (cZ k).dflt) = (q.getD i (cZ k).dflt) := hw2 i hlt
    have hsn : sgnc (p.getD i (cZ k).dflt) (q.getD i (cZ k).dflt) = 0 := sgnc_eq heq2
    refine tri_reg mixed hcx ?_ _ _
    refine mv rfl ?_
    refine mv rfl ?_
    refine ix rfl rfl slZs ⟨rfl, by omega⟩ ?_
    refine lf rfl tyZ ?_
    refine mv rfl ?_
    refine mv rfl ?_
    refine ix rfl rfl slZs ⟨rfl, by omega⟩ ?_
    refine lf rfl tyZ ?_
    refine ca rfl (h := r02_Cmp (by omega) (by omega)) (hn := ?_)
    refine cne rfl rfl (decide_eq_false (by omega)) ?_
    refine ⟨by kernel_rfl, ?_⟩
    refine nx (sl 0 rfl (sl 1 rfl (sl 5 rfl (sl 26 rfl sn)))) en ?_
    refine tri_false rfl rfl ?_
    refine tri_skip ?_
    refine pn_blk ?_
    refine nx (sl 0 rfl (sl 1 rfl (sl 5 rfl sn))) en ?_
    refine tri_reg mixed hcx ?_ _ _
    refine mv rfl ?_
    refine ad (((i + 1 : Nat) : Int)) rfl rfl rfl (by omega) ?_
    refine asg rfl ?_
    refine ⟨by kernel_rfl, ?_⟩
    exact pn_back (i + 1) (by first | omega | (dsimp only; omega)) (by omega) (sl 0 rfl (sl 1 rfl (sl 5 rfl sn))) en

theorem r13_Bg3 {p q : List Int} {k : Nat} (hp : p.length ≤ 1048576) (hq : q.length ≤ 1048576) (hk : k ≤ 1099511627776) (h : p.length ≤ q.length) (hw2 : ∀ i, i < p.length → p.getD i 0 = q.getD i 0) : Fn Tryz.prog 88 [T.l (cZ k) p, T.l (cZ k) q] [] [] [] (T.c (.bool true)) := by
  refine fn_of Tryz.func88 rfl (by show 2 ≤ 27; decide) fun cx hcx => ?_
  refine tri_sub (sl 0 rfl (sl 1 rfl sn)) en ?_
  refine tri_seq ?_
  refine tri_reg mixed hcx ?_ _ _
  refine asg rfl ?_
  refine ⟨by kernel_rfl, ?_⟩
  refine nx (sl 0 rfl (sl 1 rfl sn)) en ?_
  refine tri_seq ?_
  refine tri_seq ?_
  refine tri_reg mixed hcx ?_ _ _
  refine mv rfl ?_
  refine ln slZs rfl ?_
  refine mv rfl ?_
  refine ln slZs rfl ?_
  refine cgt rfl rfl (decide_eq_false (by omega)) ?_
  refine ⟨by kernel_rfl, ?_⟩
  refine nx (sl 0 rfl (sl 1 rfl (sl 10 rfl sn))) en ?_
  refine tri_false rfl rfl ?_
  refine tri_skip ?_
  refine nx (sl 0 rfl (sl 1 rfl sn)) en ?_
  refine tri_seq ?_
  refine tri_seq ?_
  refine tri_reg mixed hcx ?_ _ _
  refine asg rfl ?_
  refine ⟨by kernel_rfl, ?_⟩
  refine nx (sl 0 rfl (sl 1 rfl (sl 5 rfl sn))) en ?_
  refine tri_block ?_
  refine tri_loop (ι := Nat) (fun i => [(0, T.l (cZ k) p), (1, T.l (cZ k) q), (5, T.c (.int .i64 (i : Int)))]) (fun i => []) (fun i => p.length - i) (fun i => (i ≤ p.length)) 0 (Nat.zero_le _) (sl 0 rfl (sl 1 rfl (sl 5 rfl sn))) en ?_
  rintro i hi
  refine tri_sub (sl 0 rfl (sl 1 rfl (sl 5 rfl sn))) en ?_
  refine tri_seq ?_
  refine tri_seq ?_
  refine tri_reg mixed hcx ?_ _ _
  refine mv rfl ?_
  refine mv rfl ?_
  refine ln slZs rfl ?_
  refine clt rfl rfl rfl ?_
  refine ⟨by kernel_rfl, ?_⟩
  refine nx (sl 0 rfl (sl 1 rfl (sl 5 rfl (sl 14 rfl sn)))) en ?_
  refine tri_if rfl (fun hcc => ?_) (fun hcc => ?_)
  · have hlt : i < p.length := by omega
    have heq2 : (p.getD i (cZ k).dflt) = (q.getD i (cZ k).dflt) := hw2 i hlt
    have hsn : sgnc (p.getD i (cZ k).dflt) (q.getD i (cZ k).dflt) = 0 := sgnc_eq heq2
    refine tri_skip ?_
    refine nx (sl 0 rfl (sl 1 rfl (sl 5 rfl sn))) en ?_
    refine tri_seq ?_
    refine tri_block ?_
    refine tri_seq ?_
    refine tri_reg mixed hcx ?_ _ _
    refine mv rfl ?_
    refine mv rfl ?_
    refine ix rfl rfl slZs ⟨rfl, by omega⟩ ?_
    refine lf rfl tyZ ?_
    refine mv rfl ?_
    refine mv rfl ?_
    refine ix rfl rfl slZs ⟨rfl, by omega⟩ ?_
    refine lf rfl tyZ ?_
    refine ca rfl (h := r02_Cmp (by omega) (by omega)) (hn := ?_)
    refine cne rfl rfl (decide_eq_false (by omega)) ?_
    refine ⟨by kernel_rfl, ?_⟩
    refine nx (sl 0 rfl (sl 1 rfl (sl 5 rfl (sl 26 rfl sn)))) en ?_
    refine tri_false rfl rfl ?_
    refine tri_skip ?_
    refine pn_blk ?_
    refine nx (sl 0 rfl (sl 1 rfl (sl 5 rfl sn))) en ?_
    refine tri_reg mixed hcx ?_ _ _
    refine mv rfl ?_
    refine ad (((i + 1 : Nat) : Int)) rfl rfl rfl (by omega) ?_
    refine asg rfl ?_
    refine ⟨by kernel_rfl, ?_⟩
    exact pn_back (i + 1) (by first | omega | (dsimp only; omega)) (by omega) (sl 0 rfl (sl 1 rfl (sl 5 rfl sn))) en
  · refine tri_exit ?_
    repeat (first | refine pn_then ?_ | refine pn_oth (by decide) ?_)
    refine pn_ex ?_
    refine nx sn en ?_
    refine tri_seq ?_
    refine tri_reg mixed hcx ?_ _ _
    refine asg rfl ?_
    refine ⟨by kernel_rfl, ?_⟩
    refine nx (sl 4 rfl sn) en ?_
    refine tri_ret ?_
    repeat (first | refine pn_thenr ?_ | refine pn_blkr ?_)
    exact ret1 hcx rfl (rv_tmp rfl) (.refl _) en

theorem r13_Begins {p q : List Int} {k : Nat} (hp : p.length ≤ 1048576) (hq : q.length ≤ 1048576) (hk : k ≤ 1099511627776) {v : Bool} (hv : v = true ↔ Bgn p q) : Fn Tryz.prog 88 [T.l (cZ k) p, T.l (cZ k) q] [] [] [] (T.c (.bool v)) := by
  classical
  by_cases h : Bgn p q
  · rw [hv.2 h]; exact r13_Bg3 hp hq hk h.1 h.2
  · have hf : v = false := by cases v; rfl; exact absurd (hv.1 rfl) h
    rw [hf]
    rcases Nat.lt_or_ge q.length p.length with hl | hl
    · exact r13_Bg1 hp hq hk hl
    · obtain ⟨w, h1, h2, h3⟩ := least_not (fun hall => h ⟨hl, hall⟩)
      exact r13_Bg2 hp hq hk hl h1 h2 h3

end Go.Proofs.YtekghdfbhbhigaaGreat.V
/- A search tree cut into jobs: each node is counted once. -/
set_option linter.unusedVariables false
set_option maxRecDepth 100000
namespace Go.Proofs.YtekghdfbhbhigaaGreat.V
open Go.RowKit Mt Nml
open Classical in
/-- q begins with x. -/
noncomputable def bgB (q x : List Int) : Bool := decide (Bgn x q)
def eqB (q x : List Int) : Bool := decide (x = q)
theorem bgB_iff {q x : List Int} : bgB q x = true ↔ Bgn x q := by unfold bgB; exact @decide_eq_true_iff _ (Classical.propDecidable _)
theorem eqB_iff {q x : List Int} : eqB q x = true ↔ x = q := by unfold eqB; exact decide_eq_true_iff
theorem cp_T {p : List Int → Bool} {l : List (List Int)} {e : Nat} (he : e < l.length) (h : p (l.getD e []) = true) : (l.take (e + 1)).countP p = (l.take e).countP p + 1 := by
  have e1 : l.take (e + 1) = l.take e ++ [l.getD e []] := by
    rw [List.getD_eq_getElem?_getD, List.getElem?_eq_getElem he, Option.getD_some, List.take_append_getElem he]
  rw [e1, List.countP_append, List.countP_cons_of_pos h]; rfl
theorem cp_F {p : List Int → Bool} {l : List (List Int)} {e : Nat} (he : e < l.length) (h : ¬ p (l.getD e []) = true) : (l.take (e + 1)).countP p = (l.take e).countP p := by
  have e1 : l.take (e + 1) = l.take e ++ [l.getD e []] := by
    rw [List.getD_eq_getElem?_getD, List.getElem?_eq_getElem he, Option.getD_some, List.take_append_getElem he]
  rw [e1, List.countP_append, List.countP_cons_of_neg h]; rfl
theorem cp_le {p : List Int → Bool} {l : List (List Int)} {e : Nat} : (l.take e).countP p ≤ e := Nat.le_trans List.countP_le_length (by rw [List.length_take]; omega)
theorem bgn_refl (p : List Int) : Bgn p p := ⟨Nat.le_refl _, fun _ _ => rfl⟩
theorem bgn_eq {p q : List Int} (hl : p.length = q.length) (h : Bgn p q) : p = q := by
  apply List.ext_getElem hl
  intro i h1 h2
  have := h.2 i h1
  rwa [List.getD_eq_getElem?_getD, List.getElem?_eq_getElem h1, Option.getD_some, List.getD_eq_getElem?_getD, List.getElem?_eq_getElem h2, Option.getD_some] at this
theorem range_one (m j : Nat) (h : j < m) : (List.range m).countP (fun i => decide (i = j)) = 1 := by
  induction m with
  | zero => omega
  | succ m ih =>
    rw [List.range_succ, List.countP_append]
    by_cases e : j = m
    · subst e
      have h0 : (List.range j).countP (fun i => decide (i = j)) = 0 := by
        rw [List.countP_eq_zero]
        intro a ha hd
        have h1 := List.mem_range.1 ha
        have h2 : a = j := by simpa using hd
        omega
      rw [h0]; simp
    · rw [ih (by omega)]
      have : [m].countP (fun i => decide (i = j)) = 0 := by
        rw [List.countP_eq_zero]
        intro a ha hd
        have h1 : a = m := by simpa using ha
        have h2 : a = j := by simpa using hd
        omega
      rw [this]
section
variable {D : List Int} {L : List (List Int)} {ts : List (Int × Int)} {n k : Nat} {R : Rat}
/-- A node below a suffix is below each suffix that it begins with. -/
theorem bel_sub {s : List Int} {d : Nat} {ns : List (List Int)} (h : Bel D L ts n k R s d ns) : s.length = d → (∀ j, Nml.zl (s.getD j 0) ≤ k) → ∀ {p q : List Int}, q ∈ ns → Bgn s p → Bgn p q → p.length < q.length → ∃ np, Bel D L ts n k R p p.length np ∧ q ∈ np := by
  induction h with
  | leaf s => exact fun _ _ p q hq => absurd hq List.not_mem_nil
  | node s d m LL hd hz hw hn hB ih =>
    intro hs hzs p q hq hsp hpq hlt
    subst hs
    by_cases e : s.length = p.length
    · obtain rfl : s = p := bgn_eq e hsp
      exact ⟨_, Bel.node s s.length m LL hd hz hw hn hB, hq⟩
    · have hl : s.length + 1 ≤ p.length := by have := hsp.1; omega
      obtain ⟨j, hj, e1 | hq2⟩ := fl_mem hq
      · subst e1; simp at hlt; omega
      · have hzx : ∀ i, Nml.zl ((s ++ [nth (ctT D L ts s (n - 1) (n - 1 - s.length) s.length) j]).getD i 0) ≤ k := fun i => by
          rw [getD_snoc']; split
          · exact hz j (by omega)
          · exact hzs i
        have hN := (hB j hj).mem (by simp) hzx q hq2
        refine ih j hj (by simp) hzx hq2 ⟨by simpa using hl, fun i hi => ?_⟩ hpq hlt
        rw [← hN.bg i hi]
        exact (hpq.2 i (by simp at hi; omega)).symm
/-- It begins with one of the suffix' children, and with no other. -/
theorem kid_of {ns : List (List Int)} (h : Bel D L ts n k R [] 0 ns) (hk0 : Nml.zl 0 ≤ k) {p q : List Int} {m : Nat} (hq : q ∈ ns) (hpq : Bgn p q) (hlt : p.length < q.length) (hK : Kd D L ts n k R p m) : ∃ j, j < m ∧ ∀ i, Bgn (p ++ [nth (cq_ D L ts n p) i]) q ↔ i = j := by
  obtain ⟨np, hp, hqp⟩ := bel_sub h rfl (fun j => by simpa using hk0) hq ⟨Nat.zero_le _, fun j hj => absurd hj (Nat.not_lt_zero _)⟩ hpq hlt
  have hqn := (h.mem rfl (fun j => by simpa using hk0) q hq).le
  have hgo : ∃ j, j < m ∧ Bgn (p ++ [nth (cq_ D L ts n p) j]) q := by
    generalize hd : p.length = d at hp
    cases hp with
    | leaf => omega
    | node _ _ m' LL hd' hz hw hn hB =>
      subst hd
      have hmm : m = m' := by
        rcases Nat.lt_trichotomy m m' with e | e | e
        · exact absurd (hw m e) hK.n
        · exact e
        · exact absurd (hK.w m' e) hn
      subst hmm
      obtain ⟨j, hj, e1 | hq2⟩ := fl_mem hqp
      · exact ⟨j, hj, by rw [e1]; exact bgn_refl _⟩
      · refine ⟨j, hj, ?_⟩
        have hB' := (hB j hj)
        have hlen : (p ++ [nth (ctT D L ts p (n - 1) (n - 1 - p.length) p.length) j]).length = p.length + 1 := by simp
        refine ⟨by rw [show (p ++ [nth (cq_ D L ts n p) j]).length = p.length + 1 by simp]; omega, fun i hi => ?_⟩
        rw [show (p ++ [nth (cq_ D L ts n p) j]).length = p.length + 1 by simp] at hi
        have hb : ∀ {s : List Int} {d : Nat} {ns : List (List Int)}, Bel D L ts n k R s d ns → s.length = d → ∀ q ∈ ns, ∀ i, i < d → q.getD i 0 = s.getD i 0 := by
          intro s d ns hS
          induction hS with
          | leaf s => exact fun _ q hq => absurd hq List.not_mem_nil
          | node s d m LL hd hz hw hn hB ih =>
            intro hs q hq i hi
            obtain ⟨j, hj, e1 | hq2⟩ := fl_mem hq
            · rw [e1, getD_snoc', if_neg (by omega)]
            · rw [ih j hj (by simp; omega) q hq2 i (by omega), getD_snoc', if_neg (by omega)]
        exact (hb hB' hlen q hq2 i hi).symm
  obtain ⟨j, hj, hBj⟩ := hgo
  refine ⟨j, hj, fun i => ⟨fun hi => ?_, fun e => e ▸ hBj⟩⟩
  have a1 := hi.2 p.length (by simp)
  have a2 := hBj.2 p.length (by simp)
  rw [getD_snoc', if_pos rfl] at a1 a2
  exact nth_inj (a1.trans a2.symm)
/-- A step keeps the count. -/
theorem Stp.count {ns : List (List Int)} (h : Bel D L ts n k R [] 0 ns) (hk0 : Nml.zl 0 ≤ k) {many : Nat} {d l d' l' : List (List Int)} (hs : Stp D L ts n k R many d l d' l') {q : List Int} (hq : q ∈ ns) : d'.countP (eqB q) + l'.countP (bgB q) = d.countP (eqB q) + l.countP (bgB q) := by
  classical
  obtain ⟨i, m, hc, hm, rfl, rfl⟩ := hs
  have hN := h.mem rfl (fun j => by simpa using hk0) q hq
  generalize hp : l.getD i [] = p at *
  have hl : l = l.take i ++ p :: l.drop (i + 1) := by rw [← hp]; exact take_drop_at hc.hi
  have hK : Kd D L ts n k R p m := hp ▸ hc.kd
  have e0 : l.countP (bgB q) = (l.take i).countP (bgB q) + ((if bgB q p = true then 1 else 0) + (l.drop (i + 1)).countP (bgB q)) := by
    conv => lhs; rw [hl]
    rw [List.countP_append, List.countP_cons]; omega
  have e1 : (if p.length = 0 then d else d ++ [p]).countP (eqB q) = d.countP (eqB q) + (if p = q then 1 else 0) := by
    by_cases h0 : p.length = 0
    · have : ¬ p = q := fun e => by have := hN.gt; rw [← e] at this; simp at this; omega
      rw [if_pos h0, if_neg this]; rfl
    · rw [if_neg h0, List.countP_append, List.countP_cons, List.countP_nil]
      by_cases e : p = q
      · rw [if_pos (eqB_iff.2 e), if_pos e]
      · rw [if_neg (fun he => e (eqB_iff.1 he)), if_neg e]
  have e2 : (kdL D L ts n p m).countP (bgB q) = if Bgn p q ∧ p.length < q.length then 1 else 0 := by
    unfold kdL
    rw [List.countP_map]
    by_cases hb : Bgn p q ∧ p.length < q.length
    · rw [if_pos hb]
      obtain ⟨j, hj, hij⟩ := kid_of h hk0 hq hb.1 hb.2 hK
      rw [← range_one m j hj]
      refine List.countP_congr fun a _ => ?_
      simp only [Function.comp, decide_eq_true_eq]
      rw [bgB_iff]
      exact hij a
    · rw [if_neg hb, List.countP_eq_zero]
      intro a _ hd
      have := bgB_iff.1 hd
      exact hb ⟨this.cut, by have := this.1; simp at this; omega⟩
  rw [e1, List.countP_append, List.countP_append, e2, e0]
  by_cases hb : Bgn p q
  · rw [if_pos (bgB_iff.2 hb)]
    by_cases hlt : p.length < q.length
    · rw [if_neg (fun e : p = q => by rw [e] at hlt; omega), if_pos ⟨hb, hlt⟩]; omega
    · have : p = q := bgn_eq (by have := hb.1; omega) hb
      rw [if_pos this, if_neg (fun e : Bgn p q ∧ p.length < q.length => hlt e.2)]; omega
  · rw [if_neg (fun e : p = q => hb (by rw [e]; exact bgn_refl _)), if_neg (fun e : Bgn p q ∧ p.length < q.length => hb e.1), if_neg (fun e : bgB q p = true => hb (bgB_iff.1 e))]; omega
/-- Each node is counted once all the way. -/
theorem trace_count {ns : List (List Int)} (h : Bel D L ts n k R [] 0 ns) (hk0 : Nml.zl 0 ≤ k) {many N : Nat} {dd ll : Nat → List (List Int)} (h0 : dd 0 = []) (h1 : ll 0 = [[]]) (hst : ∀ j, j < N → Stp D L ts n k R many (dd j) (ll j) (dd (j + 1)) (ll (j + 1))) {q : List Int} (hq : q ∈ ns) : ∀ j, j ≤ N → (dd j).countP (eqB q) + (ll j).countP (bgB q) = 1
  | 0, _ => by
    rw [h0, h1, List.countP_nil, List.countP_cons, List.countP_nil, if_pos (bgB_iff.2 ⟨Nat.zero_le _, fun j hj => absurd hj (Nat.not_lt_zero _)⟩)]
  | j + 1, hj => by rw [(hst j (by omega)).count h hk0 hq]; exact trace_count h hk0 h0 h1 hst hq j (by omega)
end
end Go.Proofs.YtekghdfbhbhigaaGreat.V
/- A tree cut into jobs: each node is covered once. -/
set_option linter.unusedVariables false
set_option linter.unusedSimpArgs false
set_option maxRecDepth 100000
namespace Go.Proofs.YtekghdfbhbhigaaGreat.V
open Go.RowKit Mt Nml
theorem bgn_iff {p q : List Int} (hl : p.length = q.length) : Bgn p q ↔ p = q := ⟨bgn_eq hl, fun e => e ▸ bgn_refl _⟩

theorem r13_Same0 {p q : List Int} {k : Nat} (hp : p.length ≤ 1048576) (hq : q.length ≤ 1048576) (hk : k ≤ 1099511627776) (h : p.length ≠ q.length) : Fn Tryz.prog 87 [T.l (cZ k) p, T.l (cZ k) q] [] [] [] (T.c (.bool false)) := by
  refine fn_of Tryz.func87 rfl (by show 2 ≤ 15; decide) fun cx hcx => ?_
  refine tri_sub (sl 0 rfl (sl 1 rfl sn)) en ?_
  refine tri_seq ?_
  refine tri_reg mixed hcx ?_ _ _
  refine asg rfl ?_
  refine ⟨by kernel_rfl, ?_⟩
  refine nx (sl 0 rfl (sl 1 rfl sn)) en ?_
  refine tri_seq ?_
  refine tri_reg mixed hcx ?_ _ _
  refine mv rfl ?_
  refine ln slZs rfl ?_
  refine mv rfl ?_
  refine ln slZs rfl ?_
  refine ceq rfl rfl (decide_eq_false (by omega)) ?_
  refine mv rfl ?_
  refine j_off rfl rfl rfl rfl ?_
  refine j_off rfl rfl rfl rfl ?_
  refine j_off rfl rfl rfl rfl ?_
  refine pk rfl rfl ?_
  refine asg rfl ?_
  refine ⟨by kernel_rfl, ?_⟩
  refine nx (sl 4 rfl sn) en ?_
  refine tri_ret ?_
  repeat (first | refine pn_thenr ?_ | refine pn_blkr ?_)
  exact ret1 hcx rfl (rv_tmp rfl) (.refl _) en

theorem r13_Same1 {p q : List Int} {k : Nat} (hp : p.length ≤ 1048576) (hq : q.length ≤ 1048576) (hk : k ≤ 1099511627776) (h : p.length = q.length) {v : Bool} (hv : v = true ↔ Bgn p q) : Fn Tryz.prog 87 [T.l (cZ k) p, T.l (cZ k) q] [] [] [] (T.c (.bool v)) := by
  refine fn_of Tryz.func87 rfl (by show 2 ≤ 15; decide) fun cx hcx => ?_
  refine tri_sub (sl 0 rfl (sl 1 rfl sn)) en ?_
  refine tri_seq ?_
  refine tri_reg mixed hcx ?_ _ _
  refine asg rfl ?_
  refine ⟨by kernel_rfl, ?_⟩
  refine nx (sl 0 rfl (sl 1 rfl sn)) en ?_
  refine tri_seq ?_
  refine tri_reg mixed hcx ?_ _ _
  refine mv rfl ?_
  refine ln slZs rfl ?_
  refine mv rfl ?_
  refine ln slZs rfl ?_
  refine ceq rfl rfl (decide_eq_true (by omega)) ?_
  refine mv rfl ?_
  refine mv rfl ?_ (hg := gd1)
  refine mv rfl ?_ (hg := gd1)
  refine ca rfl (h := r13_Begins hp hq hk hv) (hn := ?_) (hg := gd1)
  refine pk rfl rfl ?_
  refine asg rfl ?_
  refine ⟨by kernel_rfl, ?_⟩
  refine nx (sl 4 rfl sn) en ?_
  refine tri_ret ?_
  repeat (first | refine pn_thenr ?_ | refine pn_blkr ?_)
  exact ret1 hcx rfl (rv_tmp rfl) (.refl _) en

theorem r13_Same {p q : List Int} {k : Nat} (hp : p.length ≤ 1048576) (hq : q.length ≤ 1048576) (hk : k ≤ 1099511627776) {v : Bool} (hv : v = true ↔ p = q) : Fn Tryz.prog 87 [T.l (cZ k) p, T.l (cZ k) q] [] [] [] (T.c (.bool v)) := by
  by_cases h : p.length = q.length
  · exact r13_Same1 hp hq hk h (hv.trans (bgn_iff h).symm)
  · have : v = false := by
      cases v
      · rfl
      · exact absurd (congrArg List.length (hv.1 rfl)) h
    rw [this]; exact r13_Same0 hp hq hk h

theorem r13_Covers {D : List Int} {L : List (List Int)} {ts : List (Int × Int)} {a b : Int} {k : Nat} {N d l : List (List Int)} {mo : Int} {full : Bool} (hk : k ≤ 16777216) (hN : Fn Tryz.prog 27 [T.Tr D L ts a b k, T.c (.int .i64 mo)] [] [] [] (T.tup [T.l (cL (cZ k)) N, T.c (.bool full)])) (hNl : N.length ≤ 1048576) (hd : d.length ≤ 1048576) (hl : l.length ≤ 1048576) (hNr : ∀ i, i < N.length → (N.getD i []).length ≤ 1048576) (hdr : ∀ i, i < d.length → (d.getD i []).length ≤ 1048576) (hlr : ∀ i, i < l.length → (l.getD i []).length ≤ 1048576) (H : ∀ i, i < N.length → d.countP (eqB (N.getD i [])) + l.countP (bgB (N.getD i [])) = 1) : Fn Tryz.prog 37 [T.Tr D L ts a b k, T.l (cL (cZ k)) d, T.l (cJ k) l, T.c (.int .i64 mo)] [] [] [] (T.tup [T.c (.bool true), T.c (.bool full)]) := by
  refine fn_of Tryz.func37 rfl (by show 4 ≤ 71; decide) fun cx hcx => ?_
  refine tri_sub (sl 0 rfl (sl 1 rfl (sl 2 rfl (sl 3 rfl sn)))) en ?_
  refine tri_seq ?_
  refine tri_reg mixed hcx ?_ _ _
  refine bxs 10 rfl ?_
  refine asg rfl ?_
  refine asg rfl ?_
  refine ⟨by kernel_rfl, ?_⟩
  refine nx (sl 1 rfl (sl 2 rfl (sl 3 rfl (sl 4 rfl sn)))) (el 10 rfl en) ?_
  refine tri_seq ?_
  refine tri_reg mixed hcx ?_ _ _
  refine ld rfl rfl tyTr rfl ?_
  refine mv rfl ?_
  refine ca rfl (h := hN) (hn := ?_)
  refine mv rfl ?_
  refine ex rfl rfl ?_
  refine ex rfl rfl ?_
  refine asg rfl ?_
  refine asg rfl ?_
  refine ⟨by kernel_rfl, ?_⟩
  refine nx (sl 1 rfl (sl 2 rfl (sl 10 rfl (sl 11 rfl sn)))) (el 10 rfl en) ?_
  refine tri_seq ?_
  refine tri_reg mixed hcx ?_ _ _
  refine asg rfl ?_
  refine ⟨by kernel_rfl, ?_⟩
  refine nx (sl 1 rfl (sl 2 rfl (sl 10 rfl (sl 11 rfl (sl 12 rfl sn))))) (el 10 rfl en) ?_
  refine tri_seq ?_
  refine tri_seq ?_
  refine tri_reg mixed hcx ?_ _ _
  refine asg rfl ?_
  refine ⟨by kernel_rfl, ?_⟩
  refine nx (sl 1 rfl (sl 2 rfl (sl 10 rfl (sl 11 rfl (sl 12 rfl (sl 13 rfl sn)))))) (el 10 rfl en) ?_
  refine tri_block ?_
  refine tri_loop (ι := Nat) (fun i => [(1, T.l (cL (cZ k)) d), (2, T.l (cJ k) l), (10, T.l (cL (cZ k)) N), (11, T.c (.bool full)), (12, T.c (.bool true)), (13, T.c (.int .i64 (i : Int)))]) (fun i => []) (fun i => N.length - i) (fun i => (i ≤ N.length)) 0 (Nat.zero_le _) (sl 1 rfl (sl 2 rfl (sl 10 rfl (sl 11 rfl (sl 12 rfl (sl 13 rfl sn)))))) en ?_
  rintro i hi
  refine tri_sub (sl 1 rfl (sl 2 rfl (sl 10 rfl (sl 11 rfl (sl 12 rfl (sl 13 rfl sn)))))) en ?_
  refine tri_seq ?_
  refine tri_seq ?_
  refine tri_reg mixed hcx ?_ _ _
  refine mv rfl ?_
  refine mv rfl ?_
  refine ln slZss rfl ?_
  refine clt rfl rfl rfl ?_
  refine ⟨by kernel_rfl, ?_⟩
  refine nx (sl 1 rfl (sl 2 rfl (sl 10 rfl (sl 11 rfl (sl 12 rfl (sl 13 rfl (sl 26 rfl sn))))))) en ?_
  refine tri_if rfl (fun hc0 => ?_) (fun hc0 => ?_)
  · have hc1 : i < N.length := by omega
    have hH := H i hc1
    refine tri_skip ?_
    refine nx (sl 1 rfl (sl 2 rfl (sl 10 rfl (sl 11 rfl (sl 12 rfl (sl 13 rfl sn)))))) en ?_
    refine tri_seq ?_
    refine tri_block ?_
    refine tri_seq ?_
    refine tri_reg mixed hcx ?_ _ _
    refine asg rfl ?_
    refine ⟨by kernel_rfl, ?_⟩
    refine nx (sl 1 rfl (sl 2 rfl (sl 10 rfl (sl 11 rfl (sl 12 rfl (sl 13 rfl (sl 14 rfl sn))))))) en ?_
    refine tri_seq ?_
    refine tri_seq ?_
    refine tri_reg mixed hcx ?_ _ _
    refine asg rfl ?_
    refine ⟨by kernel_rfl, ?_⟩
    refine nx (sl 1 rfl (sl 2 rfl (sl 10 rfl (sl 11 rfl (sl 12 rfl (sl 13 rfl (sl 14 rfl (sl 15 rfl sn)))))))) en ?_
    refine tri_block ?_
    refine tri_loop (ι := Nat) (fun e => [(1, T.l (cL (cZ k)) d), (2, T.l (cJ k) l), (10, T.l (cL (cZ k)) N), (11, T.c (.bool full)), (12, T.c (.bool true)), (13, T.c (.int .i64 (i : Int))), (14, T.c (.int .i64 (((d.take e).countP (eqB (N.getD i [])) : Nat) : Int))), (15, T.c (.int .i64 (e : Int)))]) (fun e => []) (fun e => d.length - e) (fun e => (e ≤ d.length)) 0 (Nat.zero_le _) (sl 1 rfl (sl 2 rfl (sl 10 rfl (sl 11 rfl (sl 12 rfl (sl 13 rfl (sw 14 rfl (.of (by rw [List.take_zero]; rfl)) (sl 15 rfl sn)))))))) en ?_
    rintro e he
    refine tri_sub (sl 1 rfl (sl 2 rfl (sl 10 rfl (sl 11 rfl (sl 12 rfl (sl 13 rfl (sl 14 rfl (sl 15 rfl sn)))))))) en ?_
    have hcle := @cp_le (eqB (N.getD i [])) d e
    refine tri_seq ?_
    refine tri_seq ?_
    refine tri_reg mixed hcx ?_ _ _
    refine mv rfl ?_
    refine mv rfl ?_
    refine ln slZss rfl ?_
    refine clt rfl rfl rfl ?_
    refine ⟨by kernel_rfl, ?_⟩
    refine nx (sl 1 rfl (sl 2 rfl (sl 10 rfl (sl 11 rfl (sl 12 rfl (sl 13 rfl (sl 14 rfl (sl 15 rfl (sl 32 rfl sn))))))))) en ?_
    refine tri_if rfl (fun hc => ?_) (fun hc => ?_)
    · have hc2 : e < d.length := by omega
      refine tri_skip ?_
      refine nx (sl 1 rfl (sl 2 rfl (sl 10 rfl (sl 11 rfl (sl 12 rfl (sl 13 rfl (sl 14 rfl (sl 15 rfl sn)))))))) en ?_
      refine tri_seq ?_
      refine tri_block ?_
      refine tri_seq ?_
      by_cases ht : d.getD e [] = N.getD i []
      · refine tri_reg mixed hcx ?_ _ _
        refine mv rfl ?_
        refine mv rfl ?_
        refine ix rfl rfl slZss ⟨rfl, by omega⟩ ?_
        refine lf rfl tyZs ?_
        refine mv rfl ?_
        refine mv rfl ?_
        refine ix rfl rfl slZss ⟨rfl, by omega⟩ ?_
        refine lf rfl tyZs ?_
        refine ca rfl (h := r13_Same (v := true) (hdr e hc2) (hNr i hc1) (by omega) (iff_of_true rfl ht)) (hn := ?_)
        refine ⟨by kernel_rfl, ?_⟩
        refine nx (sl 1 rfl (sl 2 rfl (sl 10 rfl (sl 11 rfl (sl 12 rfl (sl 13 rfl (sl 14 rfl (sl 15 rfl (sl 43 rfl sn))))))))) en ?_
        refine tri_true rfl rfl ?_
        refine tri_reg mixed hcx ?_ _ _
        refine mv rfl ?_
        refine ad ((((d.take e).countP (eqB (N.getD i [])) + 1 : Nat) : Int)) rfl rfl rfl (by omega) ?_
        refine asg rfl ?_
        refine ⟨by kernel_rfl, ?_⟩
        refine pn_blk ?_
        refine nx (sl 1 rfl (sl 2 rfl (sl 10 rfl (sl 11 rfl (sl 12 rfl (sl 13 rfl (sl 14 rfl (sl 15 rfl sn)))))))) en ?_
        refine tri_reg mixed hcx ?_ _ _
        refine mv rfl ?_
        refine ad (((e + 1 : Nat) : Int)) rfl rfl rfl (by omega) ?_
        refine asg rfl ?_
        refine ⟨by kernel_rfl, ?_⟩
        exact pn_back (e + 1) (by first | omega | (dsimp only; omega)) (by omega) (sl 1 rfl (sl 2 rfl (sl 10 rfl (sl 11 rfl (sl 12 rfl (sl 13 rfl (sw 14 rfl (.of (by rw [cp_T hc2 (eqB_iff.2 ht)])) (sl 15 rfl sn)))))))) en
      · refine tri_reg mixed hcx ?_ _ _
        refine mv rfl ?_
        refine mv rfl ?_
        refine ix rfl rfl slZss ⟨rfl, by omega⟩ ?_
        refine lf rfl tyZs ?_
        refine mv rfl ?_
        refine mv rfl ?_
        refine ix rfl rfl slZss ⟨rfl, by omega⟩ ?_
        refine lf rfl tyZs ?_
        refine ca rfl (h := r13_Same (v := false) (hdr e hc2) (hNr i hc1) (by omega) (iff_of_false Bool.false_ne_true ht)) (hn := ?_)
        refine ⟨by kernel_rfl, ?_⟩
        refine nx (sl 1 rfl (sl 2 rfl (sl 10 rfl (sl 11 rfl (sl 12 rfl (sl 13 rfl (sl 14 rfl (sl 15 rfl (sl 43 rfl sn))))))))) en ?_
        refine tri_false rfl rfl ?_
        refine tri_skip ?_
        refine pn_blk ?_
        refine nx (sl 1 rfl (sl 2 rfl (sl 10 rfl (sl 11 rfl (sl 12 rfl (sl 13 rfl (sl 14 rfl (sl 15 rfl sn)))))))) en ?_
        refine tri_reg mixed hcx ?_ _ _
        refine mv rfl ?_
        refine ad (((e + 1 : Nat) : Int)) rfl rfl rfl (by omega) ?_
        refine asg rfl ?_
        refine ⟨by kernel_rfl, ?_⟩
        exact pn_back (e + 1) (by first | omega | (dsimp only; omega)) (by omega) (sl 1 rfl (sl 2 rfl (sl 10 rfl (sl 11 rfl (sl 12 rfl (sl 13 rfl (sw 14 rfl (.of (by rw [cp_F hc2 (fun h => ht (eqB_iff.1 h))])) (sl 15 rfl sn)))))))) en
    · refine tri_exit ?_
      repeat (first | refine pn_then ?_ | refine pn_oth (by decide) ?_)
      refine pn_ex ?_
      have hed : (d.take e).countP (eqB (N.getD i [])) = d.countP (eqB (N.getD i [])) := by rw [List.take_of_length_le (by omega)]
      refine nx (sl 1 rfl (sl 2 rfl (sl 10 rfl (sl 11 rfl (sl 12 rfl (sl 13 rfl (sl 14 rfl sn))))))) en ?_
      refine tri_seq ?_
      refine tri_seq ?_
      refine tri_reg mixed hcx ?_ _ _
      refine asg rfl ?_
      refine ⟨by kernel_rfl, ?_⟩
      refine nx (sl 1 rfl (sl 2 rfl (sl 10 rfl (sl 11 rfl (sl 12 rfl (sl 13 rfl (sl 14 rfl (sl 16 rfl sn)))))))) en ?_
      refine tri_block ?_
      refine tri_loop (ι := Nat) (fun e => [(1, T.l (cL (cZ k)) d), (2, T.l (cJ k) l), (10, T.l (cL (cZ k)) N), (11, T.c (.bool full)), (12, T.c (.bool true)), (13, T.c (.int .i64 (i : Int))), (14, T.c (.int .i64 ((d.countP (eqB (N.getD i [])) + (l.take e).countP (bgB (N.getD i [])) : Nat) : Int))), (16, T.c (.int .i64 (e : Int)))]) (fun e => []) (fun e => l.length - e) (fun e => (e ≤ l.length)) 0 (Nat.zero_le _) (sl 1 rfl (sl 2 rfl (sl 10 rfl (sl 11 rfl (sl 12 rfl (sl 13 rfl (sw 14 rfl (.of (by rw [hed, List.take_zero]; rfl)) (sl 16 rfl sn)))))))) en ?_
      rintro e he2
      refine tri_sub (sl 1 rfl (sl 2 rfl (sl 10 rfl (sl 11 rfl (sl 12 rfl (sl 13 rfl (sl 14 rfl (sl 16 rfl sn)))))))) en ?_
      have hcle := @cp_le (bgB (N.getD i [])) l e
      have hcd : d.countP (eqB (N.getD i [])) ≤ d.length := List.countP_le_length
      refine tri_seq ?_
      refine tri_seq ?_
      refine tri_reg mixed hcx ?_ _ _
      refine mv rfl ?_
      refine mv rfl ?_
      refine ln slJbs rfl ?_
      refine clt rfl rfl rfl ?_
      refine ⟨by kernel_rfl, ?_⟩
      refine nx (sl 1 rfl (sl 2 rfl (sl 10 rfl (sl 11 rfl (sl 12 rfl (sl 13 rfl (sl 14 rfl (sl 16 rfl (sl 49 rfl sn))))))))) en ?_
      refine tri_if rfl (fun hcc => ?_) (fun hcc => ?_)
      · have hc3 : e < l.length := by omega
        refine tri_skip ?_
        refine nx (sl 1 rfl (sl 2 rfl (sl 10 rfl (sl 11 rfl (sl 12 rfl (sl 13 rfl (sl 14 rfl (sl 16 rfl sn)))))))) en ?_
        refine tri_seq ?_
        refine tri_block ?_
        refine tri_seq ?_
        by_cases ht : Bgn (l.getD e []) (N.getD i [])
        · refine tri_reg mixed hcx ?_ _ _
          refine mv rfl ?_
          refine mv rfl ?_
          refine ix rfl rfl slJbs ⟨rfl, by omega⟩ ?_
          refine ff rfl fJbR rfl ?_
          refine lf rfl tyZs ?_
          refine mv rfl ?_
          refine mv rfl ?_
          refine ix rfl rfl slZss ⟨rfl, by omega⟩ ?_
          refine lf rfl tyZs ?_
          refine ca rfl (h := r13_Begins (v := true) (hlr e hc3) (hNr i hc1) (by omega) (iff_of_true rfl ht)) (hn := ?_)
          refine ⟨by kernel_rfl, ?_⟩
          refine nx (sl 1 rfl (sl 2 rfl (sl 10 rfl (sl 11 rfl (sl 12 rfl (sl 13 rfl (sl 14 rfl (sl 16 rfl (sl 61 rfl sn))))))))) en ?_
          refine tri_true rfl rfl ?_
          refine tri_reg mixed hcx ?_ _ _
          refine mv rfl ?_
          refine ad (((d.countP (eqB (N.getD i [])) + (l.take e).countP (bgB (N.getD i [])) + 1 : Nat) : Int)) rfl rfl rfl (by omega) ?_
          refine asg rfl ?_
          refine ⟨by kernel_rfl, ?_⟩
          refine pn_blk ?_
          refine nx (sl 1 rfl (sl 2 rfl (sl 10 rfl (sl 11 rfl (sl 12 rfl (sl 13 rfl (sl 14 rfl (sl 16 rfl sn)))))))) en ?_
          refine tri_reg mixed hcx ?_ _ _
          refine mv rfl ?_
          refine ad (((e + 1 : Nat) : Int)) rfl rfl rfl (by omega) ?_
          refine asg rfl ?_
          refine ⟨by kernel_rfl, ?_⟩
          exact pn_back (e + 1) (by first | omega | (dsimp only; omega)) (by omega) (sl 1 rfl (sl 2 rfl (sl 10 rfl (sl 11 rfl (sl 12 rfl (sl 13 rfl (sw 14 rfl (.of (by rw [cp_T hc3 (bgB_iff.2 ht), Nat.add_assoc])) (sl 16 rfl sn)))))))) en
        · refine tri_reg mixed hcx ?_ _ _
          refine mv rfl ?_
          refine mv rfl ?_
          refine ix rfl rfl slJbs ⟨rfl, by omega⟩ ?_
          refine ff rfl fJbR rfl ?_
          refine lf rfl tyZs ?_
          refine mv rfl ?_
          refine mv rfl ?_
          refine ix rfl rfl slZss ⟨rfl, by omega⟩ ?_
          refine lf rfl tyZs ?_
          refine ca rfl (h := r13_Begins (v := false) (hlr e hc3) (hNr i hc1) (by omega) (iff_of_false Bool.false_ne_true ht)) (hn := ?_)
          refine ⟨by kernel_rfl, ?_⟩
          refine nx (sl 1 rfl (sl 2 rfl (sl 10 rfl (sl 11 rfl (sl 12 rfl (sl 13 rfl (sl 14 rfl (sl 16 rfl (sl 61 rfl sn))))))))) en ?_
          refine tri_false rfl rfl ?_
          refine tri_skip ?_
          refine pn_blk ?_
          refine nx (sl 1 rfl (sl 2 rfl (sl 10 rfl (sl 11 rfl (sl 12 rfl (sl 13 rfl (sl 14 rfl (sl 16 rfl sn)))))))) en ?_
          refine tri_reg mixed hcx ?_ _ _
          refine mv rfl ?_
          refine ad (((e + 1 : Nat) : Int)) rfl rfl rfl (by omega) ?_
          refine asg rfl ?_
          refine ⟨by kernel_rfl, ?_⟩
          exact pn_back (e + 1) (by first | omega | (dsimp only; omega)) (by omega) (sl 1 rfl (sl 2 rfl (sl 10 rfl (sl 11 rfl (sl 12 rfl (sl 13 rfl (sw 14 rfl (.of (by rw [cp_F hc3 (fun h => ht (bgB_iff.1 h))])) (sl 16 rfl sn)))))))) en
      · refine tri_exit ?_
        repeat (first | refine pn_then ?_ | refine pn_oth (by decide) ?_)
        refine pn_ex ?_
        have hel : (l.take e).countP (bgB (N.getD i [])) = l.countP (bgB (N.getD i [])) := by rw [List.take_of_length_le (by omega)]
        refine nx (sl 1 rfl (sl 2 rfl (sl 10 rfl (sl 11 rfl (sl 12 rfl (sl 13 rfl (sl 14 rfl sn))))))) en ?_
        refine tri_reg mixed hcx ?_ _ _
        refine mv rfl ?_
        refine mv rfl ?_
        refine mv rfl ?_ (hg := gd1)
        refine ceq rfl rfl (decide_eq_true (by omega)) ?_ (hg := gd1)
        refine pk rfl rfl ?_
        refine asg rfl ?_
        refine ⟨by kernel_rfl, ?_⟩
        refine pn_blk ?_
        refine nx (sl 1 rfl (sl 2 rfl (sl 10 rfl (sl 11 rfl (sl 12 rfl (sl 13 rfl sn)))))) en ?_
        refine tri_reg mixed hcx ?_ _ _
        refine mv rfl ?_
        refine ad (((i + 1 : Nat) : Int)) rfl rfl rfl (by omega) ?_
        refine asg rfl ?_
        refine ⟨by kernel_rfl, ?_⟩
        exact pn_back (i + 1) (by first | omega | (dsimp only; omega)) (by omega) (sl 1 rfl (sl 2 rfl (sl 10 rfl (sl 11 rfl (sl 12 rfl (sl 13 rfl sn)))))) en
  · refine tri_exit ?_
    repeat (first | refine pn_then ?_ | refine pn_oth (by decide) ?_)
    refine pn_ex ?_
    refine nx (sl 11 rfl (sl 12 rfl sn)) en ?_
    refine tri_seq ?_
    refine tri_reg mixed hcx ?_ _ _
    refine mv rfl ?_
    refine mv rfl ?_
    refine asg rfl ?_
    refine asg rfl ?_
    refine ⟨by kernel_rfl, ?_⟩
    refine nx (sl 8 rfl (sl 9 rfl sn)) en ?_
    refine tri_ret ?_
    repeat (first | refine pn_thenr ?_ | refine pn_blkr ?_)
    exact ret2 hcx rfl (rv_tmp rfl) (rv_tmp rfl) (.refl _) en
end Go.Proofs.YtekghdfbhbhigaaGreat.V
/- A tree cut into jobs: the law SplitWhole. -/
set_option linter.unusedVariables false
set_option linter.unusedSimpArgs false
set_option maxRecDepth 100000
namespace Go.Proofs.YtekghdfbhbhigaaGreat.V
open Go.RowKit Mt Nml
theorem lt3b (i a b c : Nat) : (i < a ∧ c < b) ∨ (i < a ∧ b ≤ c) ∨ a ≤ i := by omega

theorem l13_sw_e {D : List Int} {L : List (List Int)} {ts : List (Int × Int)} {a b : Int} {k mu : Nat} (hmu : mu < 65536) (hJ : Fn Tryz.prog 32 [T.Tr D L ts a b k, T.c (.int .i64 (((1 + mu % 64) : Nat) : Int))] [] [] [] (T.tup [T.c (.slice none 0 0), T.c (.slice none 0 0), T.c (.int .i64 110)])) (hV : Fn Tryz.prog 21 [T.Tr D L ts a b k] [] [] [] (T.c (.bool false))) : Fn Tryz.prog 8 [T.Tr D L ts a b k, T.c (.int .u16 (mu : Int))] [] [] [] (T.c (.bool true)) := by
  refine fn_of Tryz.func8 rfl (by show 2 ≤ 66; decide) fun cx hcx => ?_
  refine tri_sub (sl 0 rfl (sl 1 rfl sn)) en ?_
  refine tri_seq ?_
  refine tri_reg mixed hcx ?_ _ _
  refine bxs 10 rfl ?_
  refine asg rfl ?_
  refine ⟨by kernel_rfl, ?_⟩
  refine nx (sl 1 rfl (sl 2 rfl sn)) (el 10 rfl en) ?_
  refine tri_seq ?_
  refine tri_seq ?_
  refine tri_reg mixed hcx ?_ _ _
  refine ca rfl (h := l13_awake) (hn := ?_)
  refine nt rfl _ rfl ?_
  refine ⟨by kernel_rfl, ?_⟩
  refine nx (sl 1 rfl (sl 2 rfl (sl 13 rfl sn))) (el 10 rfl en) ?_
  refine tri_false rfl rfl ?_
  refine tri_skip ?_
  refine nx (sl 1 rfl (sl 2 rfl sn)) (el 10 rfl en) ?_
  refine tri_seq ?_
  refine tri_reg mixed hcx ?_ _ _
  refine mv rfl ?_
  refine re (((mu % 64 : Nat) : Int)) rfl rfl (by omega) ?_
  refine cvt _ rfl cvU16I rfl ⟨rfl, by omega, by omega⟩ ?_
  refine ad ((((1 + mu % 64) : Nat) : Int)) rfl rfl rfl (by omega) ?_
  refine asg rfl ?_
  refine ⟨by kernel_rfl, ?_⟩
  refine nx (sl 2 rfl (sl 5 rfl sn)) (el 10 rfl en) ?_
  refine tri_seq ?_
  refine tri_reg mixed hcx ?_ _ _
  refine ld rfl rfl tyTr rfl ?_
  refine mv rfl ?_
  refine ca rfl (h := hJ) (hn := ?_)
  refine mv rfl ?_
  refine ex rfl rfl ?_
  refine ex rfl rfl ?_
  refine ex rfl rfl ?_
  refine asg rfl ?_
  refine asg rfl ?_
  refine asg rfl ?_
  refine ⟨by kernel_rfl, ?_⟩
  refine nx (sl 2 rfl (sl 5 rfl (sl 6 rfl (sl 7 rfl (sl 8 rfl sn))))) (el 10 rfl en) ?_
  refine tri_seq ?_
  refine tri_seq ?_
  refine tri_reg mixed hcx ?_ _ _
  refine ld rfl rfl tyTr rfl ?_
  refine ca rfl (h := hV) (hn := ?_)
  refine nt rfl _ rfl ?_
  refine ⟨by kernel_rfl, ?_⟩
  refine nx (sl 2 rfl (sl 5 rfl (sl 6 rfl (sl 7 rfl (sl 8 rfl (sl 27 rfl sn)))))) (el 10 rfl en) ?_
  refine tri_true rfl rfl ?_
  refine tri_seq ?_
  refine tri_reg mixed hcx ?_ _ _
  refine mv rfl ?_
  refine ceq rfl rfl (decide_eq_true (by omega)) ?_
  refine asg rfl ?_
  refine ⟨by kernel_rfl, ?_⟩
  refine nx (sl 4 rfl sn) (el 10 rfl en) ?_
  refine tri_ret ?_
  repeat (first | refine pn_thenr ?_ | refine pn_blkr ?_)
  exact ret1 hcx rfl (rv_tmp rfl) (.refl _) en

theorem l13_sw_n {D : List Int} {L : List (List Int)} {ts : List (Int × Int)} {a b : Int} {k mu : Nat} (hmu : mu < 65536) (hJ : Fn Tryz.prog 32 [T.Tr D L ts a b k, T.c (.int .i64 (((1 + mu % 64) : Nat) : Int))] [] [] [] (T.tup [T.c (.slice none 0 0), T.c (.slice none 0 0), T.c (.int .i64 2)])) (hV : Fn Tryz.prog 21 [T.Tr D L ts a b k] [] [] [] (T.c (.bool true))) : Fn Tryz.prog 8 [T.Tr D L ts a b k, T.c (.int .u16 (mu : Int))] [] [] [] (T.c (.bool true)) := by
  refine fn_of Tryz.func8 rfl (by show 2 ≤ 66; decide) fun cx hcx => ?_
  refine tri_sub (sl 0 rfl (sl 1 rfl sn)) en ?_
  refine tri_seq ?_
  refine tri_reg mixed hcx ?_ _ _
  refine bxs 10 rfl ?_
  refine asg rfl ?_
  refine ⟨by kernel_rfl, ?_⟩
  refine nx (sl 1 rfl (sl 2 rfl sn)) (el 10 rfl en) ?_
  refine tri_seq ?_
  refine tri_seq ?_
  refine tri_reg mixed hcx ?_ _ _
  refine ca rfl (h := l13_awake) (hn := ?_)
  refine nt rfl _ rfl ?_
  refine ⟨by kernel_rfl, ?_⟩
  refine nx (sl 1 rfl (sl 2 rfl (sl 13 rfl sn))) (el 10 rfl en) ?_
  refine tri_false rfl rfl ?_
  refine tri_skip ?_
  refine nx (sl 1 rfl (sl 2 rfl sn)) (el 10 rfl en) ?_
  refine tri_seq ?_
  refine tri_reg mixed hcx ?_ _ _
  refine mv rfl ?_
  refine re (((mu % 64 : Nat) : Int)) rfl rfl (by omega) ?_
  refine cvt _ rfl cvU16I rfl ⟨rfl, by omega, by omega⟩ ?_
  refine ad ((((1 + mu % 64) : Nat) : Int)) rfl rfl rfl (by omega) ?_
  refine asg rfl ?_
  refine ⟨by kernel_rfl, ?_⟩
  refine nx (sl 2 rfl (sl 5 rfl sn)) (el 10 rfl en) ?_
  refine tri_seq ?_
  refine tri_reg mixed hcx ?_ _ _
  refine ld rfl rfl tyTr rfl ?_
  refine mv rfl ?_
  refine ca rfl (h := hJ) (hn := ?_)
  refine mv rfl ?_
  refine ex rfl rfl ?_
  refine ex rfl rfl ?_
  refine ex rfl rfl ?_
  refine asg rfl ?_
  refine asg rfl ?_
  refine asg rfl ?_
  refine ⟨by kernel_rfl, ?_⟩
  refine nx (sl 2 rfl (sl 5 rfl (sl 6 rfl (sl 7 rfl (sl 8 rfl sn))))) (el 10 rfl en) ?_
  refine tri_seq ?_
  refine tri_seq ?_
  refine tri_reg mixed hcx ?_ _ _
  refine ld rfl rfl tyTr rfl ?_
  refine ca rfl (h := hV) (hn := ?_)
  refine nt rfl _ rfl ?_
  refine ⟨by kernel_rfl, ?_⟩
  refine nx (sl 2 rfl (sl 5 rfl (sl 6 rfl (sl 7 rfl (sl 8 rfl (sl 27 rfl sn)))))) (el 10 rfl en) ?_
  refine tri_false rfl rfl ?_
  refine tri_skip ?_
  refine nx (sl 2 rfl (sl 5 rfl (sl 6 rfl (sl 7 rfl (sl 8 rfl sn))))) (el 10 rfl en) ?_
  refine tri_seq ?_
  refine tri_seq ?_
  refine tri_reg mixed hcx ?_ _ _
  refine mv rfl ?_
  refine cne rfl rfl (decide_eq_true (by omega)) ?_
  refine ⟨by kernel_rfl, ?_⟩
  refine nx (sl 2 rfl (sl 5 rfl (sl 6 rfl (sl 7 rfl (sl 8 rfl (sl 31 rfl sn)))))) (el 10 rfl en) ?_
  refine tri_true rfl rfl ?_
  refine tri_seq ?_
  refine tri_reg mixed hcx ?_ _ _
  refine mv rfl ?_
  refine ceq rfl rfl (decide_eq_true (by omega)) ?_
  refine asg rfl ?_
  refine ⟨by kernel_rfl, ?_⟩
  refine nx (sl 4 rfl sn) (el 10 rfl en) ?_
  refine tri_ret ?_
  repeat (first | refine pn_thenr ?_ | refine pn_blkr ?_)
  exact ret1 hcx rfl (rv_tmp rfl) (.refl _) en

theorem l13_sw_ok {D : List Int} {L : List (List Int)} {ts : List (Int × Int)} {a b : Int} {k mu : Nat} (hmu : mu < 65536) {d l : List (List Int)} {full : Bool} (hl : l.length ≤ 1048576) (hLl : L.length ≤ 1048576) (hlr : ∀ i, i < l.length → (l.getD i []).length ≤ 1048576) (hJ : Fn Tryz.prog 32 [T.Tr D L ts a b k, T.c (.int .i64 (((1 + mu % 64) : Nat) : Int))] [] [] [] (T.tup [T.l (cL (cZ k)) d, T.l (cJ k) l, T.c (.int .i64 0)])) (hV : Fn Tryz.prog 21 [T.Tr D L ts a b k] [] [] [] (T.c (.bool true))) (hC : Fn Tryz.prog 37 [T.Tr D L ts a b k, T.l (cL (cZ k)) d, T.l (cJ k) l, T.c (.int .i64 300)] [] [] [] (T.tup [T.c (.bool true), T.c (.bool full)])) (hS : (1 + mu % 64) ≤ l.length ∨ ∀ i, i < l.length → ¬ (l.getD i []).length < L.length) : Fn Tryz.prog 8 [T.Tr D L ts a b k, T.c (.int .u16 (mu : Int))] [] [] [] (T.c (.bool true)) := by
  refine fn_of Tryz.func8 rfl (by show 2 ≤ 66; decide) fun cx hcx => ?_
  refine tri_sub (sl 0 rfl (sl 1 rfl sn)) en ?_
  refine tri_seq ?_
  refine tri_reg mixed hcx ?_ _ _
  refine bxs 10 rfl ?_
  refine asg rfl ?_
  refine ⟨by kernel_rfl, ?_⟩
  refine nx (sl 1 rfl (sl 2 rfl sn)) (el 10 rfl en) ?_
  refine tri_seq ?_
  refine tri_seq ?_
  refine tri_reg mixed hcx ?_ _ _
  refine ca rfl (h := l13_awake) (hn := ?_)
  refine nt rfl _ rfl ?_
  refine ⟨by kernel_rfl, ?_⟩
  refine nx (sl 1 rfl (sl 2 rfl (sl 13 rfl sn))) (el 10 rfl en) ?_
  refine tri_false rfl rfl ?_
  refine tri_skip ?_
  refine nx (sl 1 rfl (sl 2 rfl sn)) (el 10 rfl en) ?_
  refine tri_seq ?_
  refine tri_reg mixed hcx ?_ _ _
  refine mv rfl ?_
  refine re (((mu % 64 : Nat) : Int)) rfl rfl (by omega) ?_
  refine cvt _ rfl cvU16I rfl ⟨rfl, by omega, by omega⟩ ?_
  refine ad ((((1 + mu % 64) : Nat) : Int)) rfl rfl rfl (by omega) ?_
  refine asg rfl ?_
  refine ⟨by kernel_rfl, ?_⟩
  refine nx (sl 2 rfl (sl 5 rfl sn)) (el 10 rfl en) ?_
  refine tri_seq ?_
  refine tri_reg mixed hcx ?_ _ _
  refine ld rfl rfl tyTr rfl ?_
  refine mv rfl ?_
  refine ca rfl (h := hJ) (hn := ?_)
  refine mv rfl ?_
  refine ex rfl rfl ?_
  refine ex rfl rfl ?_
  refine ex rfl rfl ?_
  refine asg rfl ?_
  refine asg rfl ?_
  refine asg rfl ?_
  refine ⟨by kernel_rfl, ?_⟩
  refine nx (sl 2 rfl (sl 5 rfl (sl 6 rfl (sl 7 rfl (sl 8 rfl sn))))) (el 10 rfl en) ?_
  refine tri_seq ?_
  refine tri_seq ?_
  refine tri_reg mixed hcx ?_ _ _
  refine ld rfl rfl tyTr rfl ?_
  refine ca rfl (h := hV) (hn := ?_)
  refine nt rfl _ rfl ?_
  refine ⟨by kernel_rfl, ?_⟩
  refine nx (sl 2 rfl (sl 5 rfl (sl 6 rfl (sl 7 rfl (sl 8 rfl (sl 27 rfl sn)))))) (el 10 rfl en) ?_
  refine tri_false rfl rfl ?_
  refine tri_skip ?_
  refine nx (sl 2 rfl (sl 5 rfl (sl 6 rfl (sl 7 rfl (sl 8 rfl sn))))) (el 10 rfl en) ?_
  refine tri_seq ?_
  refine tri_seq ?_
  refine tri_reg mixed hcx ?_ _ _
  refine mv rfl ?_
  refine cne rfl rfl (decide_eq_false (by omega)) ?_
  refine ⟨by kernel_rfl, ?_⟩
  refine nx (sl 2 rfl (sl 5 rfl (sl 6 rfl (sl 7 rfl (sl 8 rfl (sl 31 rfl sn)))))) (el 10 rfl en) ?_
  refine tri_false rfl rfl ?_
  refine tri_skip ?_
  refine nx (sl 2 rfl (sl 5 rfl (sl 6 rfl (sl 7 rfl sn)))) (el 10 rfl en) ?_
  refine tri_seq ?_
  refine tri_reg mixed hcx ?_ _ _
  refine ld rfl rfl tyTr rfl ?_
  refine mv rfl ?_
  refine mv rfl ?_
  refine ca rfl (h := hC) (hn := ?_)
  refine mv rfl ?_
  refine ex rfl rfl ?_
  refine ex rfl rfl ?_
  refine asg rfl ?_
  refine asg rfl ?_
  refine ⟨by kernel_rfl, ?_⟩
  refine nx (sl 2 rfl (sl 5 rfl (sl 7 rfl (sl 9 rfl sn)))) (el 10 rfl en) ?_
  refine tri_seq ?_
  refine tri_seq ?_
  refine tri_reg mixed hcx ?_ _ _
  refine mv rfl ?_
  refine nt rfl _ rfl ?_
  refine ⟨by kernel_rfl, ?_⟩
  refine nx (sl 2 rfl (sl 5 rfl (sl 7 rfl (sl 42 rfl sn)))) (el 10 rfl en) ?_
  refine tri_false rfl rfl ?_
  refine tri_skip ?_
  refine nx (sl 2 rfl (sl 5 rfl (sl 7 rfl sn))) (el 10 rfl en) ?_
  refine tri_seq ?_
  refine tri_seq ?_
  refine tri_reg mixed hcx ?_ _ _
  refine asg rfl ?_
  refine ⟨by kernel_rfl, ?_⟩
  refine nx (sl 2 rfl (sl 5 rfl (sl 7 rfl (sl 11 rfl sn)))) (el 10 rfl en) ?_
  refine tri_block ?_
  refine tri_loop (ι := Nat) (fun i => [(2, T.p 10 0), (5, T.c (.int .i64 (((1 + mu % 64) : Nat) : Int))), (7, T.l (cJ k) l), (11, T.c (.int .i64 (i : Int)))]) (fun i => [(10, some (Ent.box 39 [T.l (cZi k) D, T.l (cL (cZi k)) L, T.l (cQi k) ts, T.Zi a k, T.Zi b k]))]) (fun i => l.length - i) (fun i => (i ≤ l.length)) 0 (Nat.zero_le _) (sl 2 rfl (sl 5 rfl (sl 7 rfl (sl 11 rfl sn)))) (el 10 rfl en) ?_
  rintro i hi
  refine tri_sub (sl 2 rfl (sl 5 rfl (sl 7 rfl (sl 11 rfl sn)))) (el 10 rfl en) ?_
  refine tri_seq ?_
  refine tri_seq ?_
  rcases lt3b i l.length (1 + mu % 64) l.length with ⟨q1, q2⟩ | ⟨q1, q2⟩ | q1
  · have hcl : ¬ (l.getD i (cJ k).dflt).length < L.length := (hS.resolve_left (by omega)) i q1
    have hli : (l.getD i (cJ k).dflt).length ≤ 1048576 := hlr i q1
    refine tri_reg mixed hcx ?_ _ _
    refine mv rfl ?_
    refine mv rfl ?_
    refine ln slJbs rfl ?_
    refine clt rfl rfl (decide_eq_true (by omega)) ?_
    refine mv rfl ?_
    refine mv rfl ?_ (hg := gd1)
    refine ln slJbs rfl ?_ (hg := gd1)
    refine mv rfl ?_ (hg := gd1)
    refine clt rfl rfl (decide_eq_true (by omega)) ?_ (hg := gd1)
    refine pk rfl rfl ?_
    refine ⟨by kernel_rfl, ?_⟩
    refine nx (sl 2 rfl (sl 5 rfl (sl 7 rfl (sl 11 rfl (sl 52 rfl sn))))) (el 10 rfl en) ?_
    refine tri_true rfl rfl ?_
    refine tri_skip ?_
    refine nx (sl 2 rfl (sl 5 rfl (sl 7 rfl (sl 11 rfl sn)))) (el 10 rfl en) ?_
    refine tri_seq ?_
    refine tri_block ?_
    refine tri_seq ?_
    refine tri_reg mixed hcx ?_ _ _
    refine mv rfl ?_
    refine mv rfl ?_
    refine ix rfl rfl slJbs ⟨rfl, by omega⟩ ?_
    refine ff rfl fJbR rfl ?_
    refine lf rfl tyZs ?_
    refine ln slZs rfl ?_
    refine fa rfl fTrG 0 ?_
    refine fa rfl fL 1 ?_
    refine ld rfl rfl tyZss rfl ?_
    refine ln slZss rfl ?_
    refine clt rfl rfl (decide_eq_false (by omega)) ?_
    refine ⟨by kernel_rfl, ?_⟩
    refine nx (sl 2 rfl (sl 5 rfl (sl 7 rfl (sl 11 rfl (sl 65 rfl sn))))) (el 10 rfl en) ?_
    refine tri_false rfl rfl ?_
    refine tri_skip ?_
    refine pn_blk ?_
    refine nx (sl 2 rfl (sl 5 rfl (sl 7 rfl (sl 11 rfl sn)))) (el 10 rfl en) ?_
    refine tri_reg mixed hcx ?_ _ _
    refine mv rfl ?_
    refine ad (((i + 1 : Nat) : Int)) rfl rfl rfl (by omega) ?_
    refine asg rfl ?_
    refine ⟨by kernel_rfl, ?_⟩
    exact pn_back (i + 1) (by first | omega | (dsimp only; omega)) (by omega) (sl 2 rfl (sl 5 rfl (sl 7 rfl (sl 11 rfl sn)))) (el 10 rfl en)
  · refine tri_reg mixed hcx ?_ _ _
    refine mv rfl ?_
    refine mv rfl ?_
    refine ln slJbs rfl ?_
    refine clt rfl rfl (decide_eq_true (by omega)) ?_
    refine mv rfl ?_
    refine mv rfl ?_ (hg := gd1)
    refine ln slJbs rfl ?_ (hg := gd1)
    refine mv rfl ?_ (hg := gd1)
    refine clt rfl rfl (decide_eq_false (by omega)) ?_ (hg := gd1)
    refine pk rfl rfl ?_
    refine ⟨by kernel_rfl, ?_⟩
    refine nx (sl 2 rfl (sl 5 rfl (sl 7 rfl (sl 11 rfl (sl 52 rfl sn))))) (el 10 rfl en) ?_
    refine tri_false rfl rfl ?_
    refine tri_exit ?_
    repeat (first | refine pn_then ?_ | refine pn_oth (by decide) ?_)
    refine pn_ex ?_
    refine nx sn (el 10 rfl en) ?_
    refine tri_seq ?_
    refine tri_reg mixed hcx ?_ _ _
    refine asg rfl ?_
    refine ⟨by kernel_rfl, ?_⟩
    refine nx (sl 4 rfl sn) (el 10 rfl en) ?_
    refine tri_ret ?_
    repeat (first | refine pn_thenr ?_ | refine pn_blkr ?_)
    exact ret1 hcx rfl (rv_tmp rfl) (.refl _) en
  · refine tri_reg mixed hcx ?_ _ _
    refine mv rfl ?_
    refine mv rfl ?_
    refine ln slJbs rfl ?_
    refine clt rfl rfl (decide_eq_false (by omega)) ?_
    refine mv rfl ?_
    refine j_off rfl rfl rfl rfl ?_
    refine j_off rfl rfl rfl rfl ?_
    refine j_off rfl rfl rfl rfl ?_
    refine j_off rfl rfl rfl rfl ?_
    refine pk rfl rfl ?_
    refine ⟨by kernel_rfl, ?_⟩
    refine nx (sl 2 rfl (sl 5 rfl (sl 7 rfl (sl 11 rfl (sl 52 rfl sn))))) (el 10 rfl en) ?_
    refine tri_false rfl rfl ?_
    refine tri_exit ?_
    repeat (first | refine pn_then ?_ | refine pn_oth (by decide) ?_)
    refine pn_ex ?_
    refine nx sn (el 10 rfl en) ?_
    refine tri_seq ?_
    refine tri_reg mixed hcx ?_ _ _
    refine asg rfl ?_
    refine ⟨by kernel_rfl, ?_⟩
    refine nx (sl 4 rfl sn) (el 10 rfl en) ?_
    refine tri_ret ?_
    repeat (first | refine pn_thenr ?_ | refine pn_blkr ?_)
    exact ret1 hcx rfl (rv_tmp rfl) (.refl _) en

/-- The law, of every tree and number. -/
theorem whole_all {D : List Int} {L : List (List Int)} {ts : List (Int × Int)} {a b : Int} {k mu : Nat} (hmu : mu < 65536) (hk : k ≤ 1048576) (hLl : L.length ≤ 1048576) (hDl : D.length ≤ 1048576) (htl : ts.length ≤ 1048576) : Fn Tryz.prog 8 [T.Tr D L ts a b k, T.c (.int .u16 (mu : Int))] [] [] [] (T.c (.bool true)) := fn_trz fun hZ => by
  classical
  by_cases hV : TrV D L ts a b
  · have h := hV.trs hZ (by omega)
    obtain ⟨hG, hn, ht, hd, hb, ha⟩ := hV
    have h2 := h.mono (K := 16777216) (by omega) (Nat.le_refl _)
    have hR0 : (0 : Rat) ≤ (a : Rat) / (b : Rat) := by rw [show (0 : Rat) = ((0 : Int) : Rat) from rfl, rle_div hb]; omega
    have hRb := Rb.frac hZ.za hb
    obtain ⟨t, res, hJ⟩ := JB.ex0 (many := 1 + mu % 64) (k := 16777216) h (by omega) hRb hR0 (by omega)
    obtain ⟨N, dd, ll, k1, k2, k3, k4⟩ := hJ.trace
    have hB := trace_b (by omega) k1 k2 k3
    have h12 := h.twelve
    have hz0 : ∀ j, Nml.zl (([] : List Int).getD j 0) ≤ k + 0 * (k + 20) := fun j => by rw [show ([] : List Int).getD j 0 = 0 by simp, zl_zero]; exact Nat.zero_le _
    obtain ⟨ns, hBel⟩ := Bel.ex (K := 16777216) h (by omega) hRb L.length (s := []) (d := 0) rfl (by omega) hz0
    have hk0 : Nml.zl 0 ≤ 16777216 := by rw [zl_zero]; exact Nat.zero_le _
    have hP := sp_Jobs h2 hb ha (by omega) (by omega) k1 k2 k3 k4
    refine fn_le (Bs := [T.Tr D L ts a b 16777216, T.c (.int .u16 (mu : Int))]) ?_ ⟨tr_mono (by omega), .refl _, trivial⟩
    have hN := hB N (Nat.le_refl _)
    have hVal := r11_Valid7 (a := a) (b := b) h2.hk hLl hDl htl hG hn ht hd hb ha
    cases res with
    | none => exact l13_sw_n hmu (fn_out hP jr_out0) hVal
    | some p =>
      have hp : p = (dd N, ll N) ∧ (1 + mu % 64 ≤ (ll N).length ∨ ∀ i, i < (ll N).length → ¬ ((ll N).getD i []).length < L.length) := by
        rcases k4 with ⟨e1, e⟩ | ⟨_, e1, e⟩ | ⟨i, m, _, _, e⟩
        · exact ⟨Option.some.inj e, .inl e1⟩
        · exact ⟨Option.some.inj e, .inr e1⟩
        · cases e
      obtain ⟨hp, hS⟩ := hp
      subst hp
      have hmem : ∀ i, i < (ns.take 300).length → (ns.take 300).getD i [] ∈ ns := fun i hi => List.mem_of_mem_take (getD_mem' hi)
      have hC := r13_Covers (a := a) (b := b) (k := 16777216) (mo := 300) (N := ns.take 300) (d := dd N) (l := ll N) (by decide) (r11_Nodes (mo := 300) h2 hb ha (by decide) hBel) (by rw [List.length_take]; omega) (by omega) (by omega) (fun i hi => by have := (hBel.mem rfl (fun j => by rw [show ([] : List Int).getD j 0 = 0 by simp]; exact hk0) _ (hmem i hi)).le; omega) (fun i hi => len_at hN.2.2 (by omega) hi) (fun i hi => len_at hN.1.2 (by omega) hi) (fun i hi => trace_count hBel hk0 k1 k2 k3 (hmem i hi) N (Nat.le_refl _))
      exact l13_sw_ok hmu (by omega) hLl (fun i hi => len_at hN.1.2 (by omega) hi) (fn_out hP jr_out) hVal hC hS
  · exact l13_sw_e hmu (sp_Jobs_e (by decide) (t_Valid_no (by omega) hLl hDl htl hV)) (r11_Valid_no (by omega) hLl hDl htl hV)
end Go.Proofs.YtekghdfbhbhigaaGreat.V
