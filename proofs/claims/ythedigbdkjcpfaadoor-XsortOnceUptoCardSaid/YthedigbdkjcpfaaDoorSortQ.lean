/- The law's own rows, without Go and memory. -/
import Derived.Test.YthedigbdkjcpfaaDoorPrintf10
import Derived.Test.YthedigbdkjcpfaaDoorPrintf15
import Derived.Test.YthedigbdkjcpfaaDoorNumR
import Derived.Test.YthedigbdkjcpfaaDoorSortO
set_option linter.unusedVariables false
set_option linter.unusedSimpArgs false
namespace Go.Proofs.YthedigbdkjcpfaaDoor.SortP
open Go.RowKit Go.Proofs.YthedigbdkjcpfaaDoorW.PrintWords Go.Proofs.YthedigbdkjcpfaaDoor.Plain Go.Proofs.YthedigbdkjcpfaaDoor.Print Go.Proofs.YthedigbdkjcpfaaDoor.SortO Go.Proofs.YthedigbdkjcpfaaDoor.NumO
theorem live_f : stencillaw13_live.f 64 = some true := by kernel_rfl
theorem live_k (k : Nat) : stencillaw13_live.f (64 + k) = some true := by
  induction k with
  | zero => exact live_f
  | succ k ih => exact stencillaw13_live.mono _ _ ih
theorem live_at {k : Nat} (h : 64 ≤ k) : stencillaw13_live.f k = some true := by
  obtain ⟨j, rfl⟩ : ∃ j, k = 64 + j := ⟨k - 64, by omega⟩
  exact live_k j
abbrev Key2 := S55
def rf (t : Key) : Key2 := ⟨t.f0, t.f1, t.f2, t.f3⟩
def RightK (t : Key) : Prop := RightP t.f3.f0 t.f3.f1
instance (t : Key) : Decidable (RightK t) := by unfold RightK; infer_instance
/-! the law's own rows -/
def cut (l : List (List Key)) : List (List Key) := (l.take 40).map (·.take 6)
def rfs (l : List (List Key)) : List (List Key2) := l.map (·.map rf)
def outR (l : List (List Key)) : List (List Key) × List (List Key2) × Bool := if ∀ r ∈ cut l, ∀ t ∈ r, RightK t then (cut l, rfs (cut l), true) else ([], [], false)
theorem bad_out {l : List (List Key)} {r : List Key} {t : Key} (hr : r ∈ cut l) (ht : t ∈ r) (h : ¬ RightK t) : outR l = ([], [], false) := by
  unfold outR
  rw [if_neg (fun h2 => h (h2 r hr t ht))]
theorem row_at (l : List (List Key)) (i : Nat) (hi : i < l.length) : rd_L5 l (i : Int) = l[i] := by
  unfold rd_L5
  rw [Int.toNat_natCast, List.getD_eq_getElem?_getD, List.getElem?_eq_getElem hi]
  rfl
theorem key_at (r : List Key) (i : Nat) (hi : i < r.length) : rd_T41 r (i : Int) = r[i] := by
  unfold rd_T41
  rw [Int.toNat_natCast, List.getD_eq_getElem?_getD, List.getElem?_eq_getElem hi]
  rfl
theorem eK (t : Key) : (⟨t.f0, t.f1, t.f2, (⟨t.f3.f0, t.f3.f1⟩ : S39)⟩ : S41) = t := rfl
theorem eK2 (t : Key) : (⟨t.f0, t.f1, t.f2, (⟨t.f3.f0, t.f3.f1⟩ : S39)⟩ : S55) = rf t := rfl
/-- one key of a row -/
theorem rows_step (l : List (List Key)) (i j k : Nat) (hi : i < l.length) (hi4 : i < 40) (hjl : j < l[i].length) (hj : j < 6) (x5 : List (List Key)) (x6 : List (List Key2)) (x8 : List Key) (x9 : List Key2) :
    stencillaw13_rows.l1 (k + 1 + 1) l x5 x6 (i : Int) x8 x9 (j : Int) =
      if decide (RightP (l[i][j]).f3.f0 (l[i][j]).f3.f1) = true then (if x8.length < 3518437208883 then (if x9.length < 3518437208883 then stencillaw13_rows.l1 k l x5 x6 (i : Int) (x8 ++ [l[i][j]]) (x9 ++ [rf l[i][j]]) (wrap64 ((j : Int) + 1)) else none) else none) else some ([], [], false) := by
  have c1 : (0 : Int) ≤ (i : Int) := by omega
  have c2 : (i : Int) < (l.length : Int) := by omega
  have c3 : (j : Int) < (l[i].length : Int) := by omega
  have c4 : (0 : Int) ≤ (j : Int) := by omega
  have c5 : decide ((j : Int) < 6) = true := decide_eq_true (by omega)
  have e1 : stencillaw13_rows.l1 (k + 1 + 1) l x5 x6 (i : Int) x8 x9 (j : Int) = stencillaw13_rows.j3 (k + 1) l x5 x6 (i : Int) x8 x9 (j : Int) true := by
    rw [stencillaw13_rows.l1, if_pos c1, if_pos c2, row_at l i hi, if_pos c3, c5]
  rw [e1, stencillaw13_rows.j3, if_pos rfl, if_pos c1, if_pos c2, if_pos c4, row_at l i hi, if_pos c3, key_at _ j hjl, Right_f, ob, eK, eK2]
/-- one row's keys -/
theorem rows_l1 (l : List (List Key)) (i : Nat) (hi : i < l.length) (hi4 : i < 40) (x5 : List (List Key)) (x6 : List (List Key2)) (h5 : x5.length ≤ 40) (h6 : x6.length ≤ 40) (K : Nat)
    (hn : ∀ k, K ≤ k → stencillaw13_rows.l0 k l (x5 ++ [l[i].take 6]) (x6 ++ [(l[i].take 6).map rf]) (wrap64 ((i : Int) + 1)) = some (outR l)) :
    ∀ (m j k : Nat), j + m = min l[i].length 6 → K + 2 * m + 2 ≤ k → stencillaw13_rows.l1 k l x5 x6 (i : Int) (l[i].take j) ((l[i].take j).map rf) (j : Int) = some (outR l) := by
  intro m
  induction m with
  | zero =>
    intro j k hj hk
    obtain ⟨k, rfl⟩ : ∃ q, k = q + 1 + 1 := ⟨k - 2, by omega⟩
    have e : l[i].take j = l[i].take 6 := by
      rcases Nat.le_total l[i].length 6 with h | h
      · rw [List.take_of_length_le (by omega), List.take_of_length_le h]
      · rw [show j = 6 by omega]
    have fin : stencillaw13_rows.j3 (k + 1) l x5 x6 (i : Int) (l[i].take j) ((l[i].take j).map rf) (j : Int) false = some (outR l) := by
      rw [stencillaw13_rows.j3, if_neg (by decide), if_pos (by omega), if_pos (by omega), e]
      exact hn k (by omega)
    rw [stencillaw13_rows.l1, if_pos (by omega), if_pos (by omega), row_at l i hi]
    by_cases h : (j : Int) < (l[i].length : Int)
    · have d6 : decide ((j : Int) < 6) = false := decide_eq_false (by omega)
      rw [if_pos h, d6]; exact fin
    · rw [if_neg h]; exact fin
  | succ m IH =>
    intro j k hj hk
    obtain ⟨k, rfl⟩ : ∃ q, k = q + 1 + 1 := ⟨k - 2, by omega⟩
    have hjl : j < l[i].length := by omega
    have ih := IH (j + 1) k (by omega) (by omega)
    have hj6 : j < 6 := by omega
    have q0 : (l[i].take j).length ≤ 6 := by rw [List.length_take]; omega
    have hw : wrap64 ((j : Int) + 1) = ((j + 1 : Nat) : Int) := by rw [w64s _ (by omega) (by omega)]; omega
    have hst := rows_step l i j k hi hi4 hjl hj6 x5 x6 (l[i].take j) ((l[i].take j).map rf)
    rw [hw] at hst
    refine hst.trans ?_
    clear hst hw
    by_cases hr : RightP (l[i][j]).f3.f0 (l[i][j]).f3.f1
    · have q1 : (l[i].take j).length < 3518437208883 := Nat.lt_of_le_of_lt q0 (by decide)
      have q2 : ((l[i].take j).map rf).length < 3518437208883 := by rw [List.length_map]; exact q1
      rw [decide_eq_true hr, if_pos rfl, if_pos q1, if_pos q2]
      have e1 : l[i].take (j + 1) = l[i].take j ++ [l[i][j]] := List.take_succ_eq_append_getElem hjl
      rw [e1, List.map_append, List.map_cons, List.map_nil] at ih
      exact ih
    · rw [decide_eq_false hr, if_neg (by decide)]
      refine congrArg some (bad_out (r := l[i].take 6) ?_ (t := l[i][j]) ?_ hr).symm
      · refine List.mem_map.2 ⟨l[i], ?_, rfl⟩
        exact List.mem_of_getElem? (i := i) (by rw [List.getElem?_take, if_pos hi4, List.getElem?_eq_getElem hi])
      · exact List.mem_of_getElem? (i := j) (by rw [List.getElem?_take, if_pos (by omega), List.getElem?_eq_getElem hjl])
theorem rows_bad (l : List (List Key)) (i : Nat) (hi : i < l.length) (hi4 : i < 40) (x5 : List (List Key)) (x6 : List (List Key2)) (bad : outR l = ([], [], false)) :
    ∀ (m j k : Nat), j + m = min l[i].length 6 → 2 * m + 2 ≤ k → (∀ t ∈ l[i].take j, RightK t) → (¬ ∀ t ∈ l[i].take 6, RightK t) → stencillaw13_rows.l1 k l x5 x6 (i : Int) (l[i].take j) ((l[i].take j).map rf) (j : Int) = some (outR l) := by
  intro m
  induction m with
  | zero =>
    intro j k hj hk h1 h2
    have e : l[i].take j = l[i].take 6 := by
      rcases Nat.le_total l[i].length 6 with h | h
      · rw [List.take_of_length_le (by omega), List.take_of_length_le h]
      · rw [show j = 6 by omega]
    rw [e] at h1
    exact absurd h1 h2
  | succ m IH =>
    intro j k hj hk h1 h2
    obtain ⟨k, rfl⟩ : ∃ q, k = q + 1 + 1 := ⟨k - 2, by omega⟩
    have hjl : j < l[i].length := by omega
    have hj6 : j < 6 := by omega
    have q0 : (l[i].take j).length ≤ 6 := by rw [List.length_take]; omega
    have hw : wrap64 ((j : Int) + 1) = ((j + 1 : Nat) : Int) := by rw [w64s _ (by omega) (by omega)]; omega
    have hst := rows_step l i j k hi hi4 hjl hj6 x5 x6 (l[i].take j) ((l[i].take j).map rf)
    rw [hw] at hst
    refine hst.trans ?_
    clear hst hw
    have e1 : l[i].take (j + 1) = l[i].take j ++ [l[i][j]] := List.take_succ_eq_append_getElem hjl
    by_cases hr : RightP (l[i][j]).f3.f0 (l[i][j]).f3.f1
    · have ih := IH (j + 1) k (by omega) (by omega) (by
        rw [e1]
        intro t ht
        rcases List.mem_append.1 ht with h | h
        · exact h1 t h
        · rw [List.mem_singleton.1 h]; exact hr) h2
      rw [decide_eq_true hr, if_pos rfl, if_pos (by rw [List.length_take]; omega), if_pos (by rw [List.length_map, List.length_take]; omega)]
      rw [e1, List.map_append, List.map_cons, List.map_nil] at ih
      exact ih
    · rw [decide_eq_false hr, if_neg (by decide), bad]
theorem rows_l0 (l : List (List Key)) : ∀ (m j k : Nat), j + m = min l.length 40 → (∀ r ∈ (cut l).take j, ∀ t ∈ r, RightK t) → 20 * m + 2 ≤ k →
    stencillaw13_rows.l0 k l ((cut l).take j) (rfs ((cut l).take j)) (j : Int) = some (outR l) := by
  intro m
  induction m with
  | zero =>
    intro j k hj hR hk
    obtain ⟨k, rfl⟩ : ∃ q, k = q + 1 + 1 := ⟨k - 2, by omega⟩
    have hc : (cut l).length = min 40 l.length := by simp [cut]
    have e : (cut l).take j = cut l := List.take_of_length_le (by omega)
    have eo : outR l = (cut l, rfs (cut l), true) := by unfold outR; rw [if_pos (by rw [← e]; exact hR)]
    have fin : stencillaw13_rows.j1 (k + 1) l ((cut l).take j) (rfs ((cut l).take j)) (j : Int) false = some (outR l) := by
      rw [stencillaw13_rows.j1, if_neg (by decide), e, eo]
    rw [stencillaw13_rows.l0]
    by_cases h : (j : Int) < (l.length : Int)
    · have d40 : decide ((j : Int) < 40) = false := decide_eq_false (by omega)
      rw [if_pos h, d40]; exact fin
    · rw [if_neg h]; exact fin
  | succ m IH =>
    intro j k hj hR hk
    obtain ⟨k, rfl⟩ : ∃ q, k = q + 1 + 1 := ⟨k - 2, by omega⟩
    have hjl : j < l.length := by omega
    have hc : (cut l).length = min 40 l.length := by simp [cut]
    have hjc : j < (cut l).length := by omega
    have ec : (cut l)[j] = l[j].take 6 := by simp [cut]
    have hw : wrap64 ((j : Int) + 1) = ((j + 1 : Nat) : Int) := by rw [w64s _ (by omega) (by omega)]; omega
    have d40 : decide ((j : Int) < 40) = true := decide_eq_true (by omega)
    rw [stencillaw13_rows.l0, if_pos (show (j : Int) < (l.length : Int) by omega), d40, stencillaw13_rows.j1, if_pos rfl]
    have e1 : (cut l).take (j + 1) = (cut l).take j ++ [l[j].take 6] := by rw [List.take_succ_eq_append_getElem hjc, ec]
    by_cases hr : ∀ t ∈ l[j].take 6, RightK t
    · refine rows_l1 l j hjl (by omega) ((cut l).take j) (rfs ((cut l).take j)) (by rw [List.length_take]; omega) (by rw [rfs, List.length_map, List.length_take]; omega) (20 * m + 2) (fun q hq => ?_) (min l[j].length 6) 0 k (by omega) (by omega)
      have ih := IH (j + 1) q (by omega) (by
        rw [e1]
        intro r hr2 t ht
        rcases List.mem_append.1 hr2 with h | h
        · exact hR r h t ht
        · rw [List.mem_singleton.1 h] at ht; exact hr t ht) hq
      rw [hw]
      rw [e1, rfs, List.map_append, List.map_cons, List.map_nil] at ih
      exact ih
    · -- a number is not right: the walk stops in this row, whatever follows
      have bad : outR l = ([], [], false) := by
        have h2 : ∃ t, t ∈ l[j].take 6 ∧ ¬ RightK t := by
          refine Classical.byContradiction fun h => hr fun t ht => Classical.byContradiction fun h3 => h ⟨t, ht, h3⟩
        obtain ⟨t, ht, h3⟩ := h2
        exact bad_out (r := l[j].take 6) (by rw [← ec]; exact List.getElem_mem hjc) ht h3
      exact rows_bad l j hjl (by omega) _ _ bad (min l[j].length 6) 0 k (by omega) (by omega) (by simp) hr
theorem rows_f (l : List (List Key)) (k : Nat) (hk : 1000 ≤ k) : stencillaw13_rows.f k l = some (outR l) := by
  have := rows_l0 l (min l.length 40) 0 k (by omega) (by simp) (by omega)
  unfold stencillaw13_rows.f
  simpa [rfs] using this
end Go.Proofs.YthedigbdkjcpfaaDoor.SortP
