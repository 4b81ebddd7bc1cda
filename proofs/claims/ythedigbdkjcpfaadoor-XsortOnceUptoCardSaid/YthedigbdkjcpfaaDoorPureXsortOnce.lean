/- XsortOnce, without Go and memory. -/
import Derived.Test.YthedigbdkjcpfaaDoorPrintf5
import Derived.Test.YthedigbdkjcpfaaDoorPrintf15
import Derived.Test.YthedigbdkjcpfaaDoorPrintxsortorder
import Derived.Test.YthedigbdkjcpfaaDoorSortQ
set_option linter.unusedVariables false
set_option linter.unusedSimpArgs false
namespace Go.Proofs.YthedigbdkjcpfaaDoor.Pure
open Go.RowKit Go.Proofs.YthedigbdkjcpfaaDoorW.PrintWords Go.Proofs.YthedigbdkjcpfaaDoor.Plain Go.Proofs.YthedigbdkjcpfaaDoor.Print Go.Proofs.YthedigbdkjcpfaaDoor.SortO Go.Proofs.YthedigbdkjcpfaaDoor.SortP
def ints (o : List Nat) : List Int := o.map fun (x : Nat) => (x : Int)
theorem ints_length (o : List Nat) : (ints o).length = o.length := by simp [ints]
theorem rd_ints (o : List Nat) (i : Nat) (hi : i < o.length) : rd (ints o) (i : Int) = (o[i] : Int) := by
  unfold rd ints
  rw [Int.toNat_natCast, List.getD_eq_getElem?_getD, List.getElem?_map, List.getElem?_eq_getElem hi]
  rfl
/-- the marks of the places told so far -/
def marks : List Nat → Nat → List Bool
  | [], n => List.replicate n false
  | x :: o, n => (marks o n).set x true
theorem marks_length (o : List Nat) (n : Nat) : (marks o n).length = n := by
  induction o with
  | nil => simp [marks]
  | cons x o ih => simp [marks, ih]
theorem marks_at (o : List Nat) (n y : Nat) (hy : y < n) (h : y ∉ o) : rdOf false (marks o n) (y : Int) = false := by
  unfold rdOf
  rw [Int.toNat_natCast, List.getD_eq_getElem?_getD]
  have : (marks o n)[y]? = some false := by
    induction o with
    | nil => simp [marks, List.getElem?_replicate, hy]
    | cons x o ih =>
      rw [marks, List.getElem?_set_ne (fun e => h (by rw [e]; exact List.mem_cons_self))]
      exact ih (fun h2 => h (List.mem_cons_of_mem _ h2))
  rw [this]; rfl
def rowsAt (l : List (List Key)) (o : List Nat) : List (List Key) := o.map fun x => l.getD x []
def again (l : List (List Key)) (o : List Nat) : List (List Key) := if 0 < l.length then l.getD 0 [] :: rowsAt l o else rowsAt l o
theorem once_step (l : List (List Key)) (o : List Nat) (hl : l.length ≤ 40) (ho : o.length = l.length) (i k : Nat) (hi : i < o.length) (hx : o[i] < l.length) (x7 : List Bool) (h7 : x7.length = l.length) (hm : rdOf false x7 (o[i] : Int) = false) (x8 : List (List Key)) (h8 : x8.length ≤ 40) :
    stencillaw13_XsortOnce.l0 (k + 1) l (ints o) x7 x8 (i : Int) = stencillaw13_XsortOnce.l0 k l (ints o) (x7.set o[i] true) (x8 ++ [l.getD o[i] []]) (wrap64 ((i : Int) + 1)) := by
  have e1 : rd_L5 l (o[i] : Int) = l.getD o[i] [] := by rw [row_at l _ hx, List.getD_eq_getElem?_getD, List.getElem?_eq_getElem hx]; rfl
  have c1 : (i : Int) < ((ints o).length : Int) := by rw [ints_length]; omega
  have c2 : (0 : Int) ≤ (i : Int) := by omega
  have c3 : ¬ (o[i] : Int) < 0 := by omega
  have c4 : ¬ (o[i] : Int) ≥ (l.length : Int) := by omega
  have c5 : (0 : Int) ≤ (o[i] : Int) := by omega
  have c6 : (o[i] : Int) < (x7.length : Int) := by omega
  have c7 : (o[i] : Int) < (l.length : Int) := by omega
  have c8 : x8.length < 5864062014805 := Nat.lt_of_le_of_lt h8 (by decide)
  rw [stencillaw13_XsortOnce.l0, if_pos c1, if_pos c2, rd_ints o i hi, if_neg c3, if_neg c4, if_pos c5, if_pos c6, hm, if_neg (by decide), if_pos c7, if_pos c8, e1, Int.toNat_natCast]
theorem once_l0 (l : List (List Key)) (o : List Nat) (hl : l.length ≤ 40) (ho : o.length = l.length) (hin : ∀ i (h : i < o.length), o[i] < l.length) (hnd : o.Nodup) (K : Nat)
    (hn : ∀ k, K ≤ k → stencillaw13_XsortOnce.j1 k (again l o) = some true) : ∀ (m i k : Nat), i + m = o.length → K + m + 2 ≤ k →
    stencillaw13_XsortOnce.l0 k l (ints o) (marks (o.take i).reverse l.length) (rowsAt l (o.take i)) (i : Int) = some true := by
  intro m
  induction m with
  | zero =>
    intro i k hi hk
    obtain ⟨k, rfl⟩ : ∃ q, k = q + 1 := ⟨k - 1, by omega⟩
    have e : o.take i = o := List.take_of_length_le (by omega)
    have hr : (rowsAt l o).length = o.length := by simp [rowsAt]
    have hn2 := hn k (by omega)
    have q1 : ¬ (i : Int) < ((ints o).length : Int) := by rw [ints_length]; omega
    rw [e, stencillaw13_XsortOnce.l0, if_neg q1]
    unfold again at hn2
    by_cases h : 0 < l.length
    · have c1 : (l.length : Int) > 0 := by omega
      have c2 : (0 : Int) < (l.length : Int) := by omega
      have e0 : rd_L5 l (0 : Int) = l.getD 0 [] := by
        have := row_at l 0 h
        rw [List.getD_eq_getElem?_getD, List.getElem?_eq_getElem h]
        exact this
      have c3 : ([l.getD 0 []] : List (List Key)).length + (rowsAt l o).length < 5864062014805 := Nat.lt_of_le_of_lt (show _ ≤ 41 by rw [hr]; simp only [List.length_singleton]; omega) (by decide)
      rw [if_pos h] at hn2
      rw [if_pos c1, if_pos c2, e0, ob, if_pos c3]
      exact hn2
    · have c1 : ¬ (l.length : Int) > 0 := by omega
      rw [if_neg h] at hn2
      rw [if_neg c1]
      exact hn2
  | succ m IH =>
    intro i k hi hk
    obtain ⟨k, rfl⟩ : ∃ q, k = q + 1 := ⟨k - 1, by omega⟩
    have hio : i < o.length := by omega
    have ih := IH (i + 1) k (by omega) (by omega)
    have e1 : o.take (i + 1) = o.take i ++ [o[i]] := List.take_succ_eq_append_getElem hio
    have hnot : o[i] ∉ (o.take i).reverse := by
      rw [List.mem_reverse]
      intro hmem
      obtain ⟨j, hj, hj2⟩ := List.getElem_of_mem hmem
      rw [List.length_take] at hj
      rw [List.getElem_take] at hj2
      exact List.pairwise_iff_getElem.1 hnd j i (by omega) hio (by omega) hj2
    have st := once_step l o hl ho i k hio (hin i hio) (marks (o.take i).reverse l.length) (marks_length _ _) (marks_at _ _ _ (hin i hio) hnot) (rowsAt l (o.take i)) (by simp only [rowsAt, List.length_map, List.length_take]; omega)
    refine st.trans ?_
    have e2 : (marks (o.take i).reverse l.length).set o[i] true = marks (o.take (i + 1)).reverse l.length := by rw [e1, List.reverse_append]; rfl
    have e3 : rowsAt l (o.take i) ++ [l.getD o[i] []] = rowsAt l (o.take (i + 1)) := by rw [e1, rowsAt, rowsAt, List.map_append]; rfl
    have hw : wrap64 ((i : Int) + 1) = ((i + 1 : Nat) : Int) := by rw [w64s _ (by omega) (by omega)]; omega
    rw [e2, e3, hw]
    exact ih
theorem once_l1 (p : List Nat) (hp : p.length ≤ 50) (hmono : ∀ i j (hi : i < p.length) (hj : j < p.length), i < j → p[i] ≠ 0 → p[j] ≠ 0 → p[i] < p[j]) : ∀ (m i k : Nat) (last : Int), i + m = p.length → m + 70 ≤ k → (∀ j (hj : j < p.length), i ≤ j → p[j] ≠ 0 → last ≤ (p[j] : Int)) →
    stencillaw13_XsortOnce.l1 k (ints p) last (i : Int) = some true := by
  intro m
  induction m with
  | zero =>
    intro i k last hi hk _
    obtain ⟨k, rfl⟩ : ∃ q, k = q + 1 := ⟨k - 1, by omega⟩
    have q1 : ¬ (i : Int) < ((ints p).length : Int) := by rw [ints_length]; omega
    rw [stencillaw13_XsortOnce.l1, if_neg q1, live_at (by omega), ob]
  | succ m IH =>
    intro i k last hi hk hlast
    obtain ⟨k, rfl⟩ : ∃ q, k = q + 1 := ⟨k - 1, by omega⟩
    have hip : i < p.length := by omega
    have c1 : (i : Int) < ((ints p).length : Int) := by rw [ints_length]; omega
    have c2 : (0 : Int) ≤ (i : Int) := by omega
    have hk2 : m + 70 ≤ k := by omega
    have hi2 : i + 1 + m = p.length := by omega
    have h1 := hlast i hip (Nat.le_refl _)
    have step : stencillaw13_XsortOnce.l1 (k + 1) (ints p) last (i : Int) = if (p[i] : Int) = 0 then stencillaw13_XsortOnce.l1 k (ints p) last (wrap64 ((i : Int) + 1)) else if (p[i] : Int) < last then some false else stencillaw13_XsortOnce.l1 k (ints p) (p[i] : Int) (wrap64 ((i : Int) + 1)) := by
      rw [stencillaw13_XsortOnce.l1, if_pos c1, if_pos c2, rd_ints p i hip]
    have hw : wrap64 ((i : Int) + 1) = ((i + 1 : Nat) : Int) := by rw [w64s _ (by omega) (by omega)]; omega
    rw [hw] at step
    clear hw
    by_cases e : p[i] = 0
    · have e2 : (p[i] : Int) = 0 := by omega
      rw [if_pos e2] at step
      exact step.trans (IH (i + 1) k last hi2 hk2 (fun j hj hij h => hlast j hj (by omega) h))
    · have e2 : ¬ (p[i] : Int) = 0 := by omega
      have e3 : ¬ (p[i] : Int) < last := by have := h1 e; omega
      rw [if_neg e2, if_neg e3] at step
      exact step.trans (IH (i + 1) k (p[i] : Int) hi2 hk2 (fun j hj hij h => by
        have := hmono i j hip hj (by omega) e h
        omega))
theorem cut_first (l : List (List Key)) : ((cut l).getD 0 []).length ≤ 6 := by
  unfold cut
  rw [List.getD_eq_getElem?_getD, List.getElem?_map]
  cases (l.take 40)[0]? with
  | none => simp
  | some r => rw [Option.map_some, Option.getD_some, List.length_take]; omega
theorem cut_length (l : List (List Key)) : (cut l).length ≤ 40 := by simp [cut]; omega
theorem XsortOnce (l : List (List Key)) : ∃ k, stencillaw13_XsortOnce.f k l = some true := by
  by_cases hR : ∀ r ∈ cut l, ∀ t ∈ r, RightK t
  · have eo : outR l = (cut l, rfs (cut l), true) := by unfold outR; rw [if_pos hR]
    have h1 := cut_length l
    have h2 := cut_first l
    obtain ⟨o, p1, s1, f1⟩ := order_f (cut l) (by omega) (by omega)
    have hol : o.length = (cut l).length := by have := p1.length_eq; rwa [List.length_range] at this
    have hin : ∀ i (h : i < o.length), o[i] < (cut l).length := fun i h => List.mem_range.1 (p1.mem_iff.1 (List.getElem_mem h))
    have hnd : o.Nodup := p1.nodup_iff.2 List.nodup_range
    have G := cmpC_good (cut l)
    -- the second order
    have hal : (again (cut l) o).length ≤ 41 := by unfold again; split <;> simp only [List.length_cons, rowsAt, List.length_map] <;> omega
    have ha0 : (again (cut l) o).getD 0 [] = (cut l).getD 0 [] := by
      unfold again
      split
      · rfl
      · rename_i h
        have : o = [] := List.eq_nil_of_length_eq_zero (by omega)
        rw [this, List.eq_nil_of_length_eq_zero (show (cut l).length = 0 by omega)]
        rfl
    obtain ⟨p, p2, s2, f2⟩ := order_f (again (cut l) o) (by omega) (by rw [ha0]; omega)
    have hpl : p.length = (again (cut l) o).length := by have := p2.length_eq; rwa [List.length_range] at this
    have hpin : ∀ i (h : i < p.length), p[i] < (again (cut l) o).length := fun i h => List.mem_range.1 (p2.mem_iff.1 (List.getElem_mem h))
    have hcmp : ∀ t u (ht : t < o.length) (hu : u < o.length), cmpC (again (cut l) o) (t + 1) (u + 1) = cmpC (cut l) o[t] o[u] := by
      intro t u ht hu
      have hpos : 0 < (cut l).length := by omega
      have ea : again (cut l) o = (cut l).getD 0 [] :: rowsAt (cut l) o := by unfold again; rw [if_pos hpos]
      have er : ∀ t (ht : t < o.length), (again (cut l) o).getD (t + 1) [] = (cut l).getD o[t] [] := by
        intro t ht
        rw [ea, List.getD_cons_succ, rowsAt, List.getD_eq_getElem?_getD, List.getElem?_map, List.getElem?_eq_getElem ht]
        rfl
      unfold cmpC
      rw [ha0, er t ht, er u hu]
    have hord : ∀ t u (ht : t < o.length) (hu : u < o.length), t < u → aheadC (cmpC (again (cut l) o)) (t + 1) (u + 1) := by
      intro t u ht hu htu
      have := List.pairwise_iff_getElem.1 s1 t u ht hu htu
      unfold aheadC at this ⊢
      rw [hcmp t u ht hu]
      omega
    have G2 := cmpC_good (again (cut l) o)
    have hmono : ∀ i j (hi : i < p.length) (hj : j < p.length), i < j → p[i] ≠ 0 → p[j] ≠ 0 → p[i] < p[j] := by
      intro i j hi hj hij e1 e2
      have h3 := List.pairwise_iff_getElem.1 s2 i j hi hj hij
      have b1 := hpin i hi
      have b2 := hpin j hj
      have hla : (again (cut l) o).length ≤ o.length + 1 := by unfold again; split <;> simp only [List.length_cons, rowsAt, List.length_map] <;> omega
      obtain ⟨t, ht⟩ : ∃ t, t + 1 = p[i] := ⟨p[i] - 1, by omega⟩
      obtain ⟨u, hu⟩ : ∃ u, u + 1 = p[j] := ⟨p[j] - 1, by omega⟩
      rw [← ht, ← hu] at h3 ⊢
      refine Classical.byContradiction fun hc => ?_
      by_cases e : t = u
      · subst e
        have := G2.refl (t + 1)
        unfold aheadC at h3
        omega
      · have h4 := hord u t (by omega) (by omega) (by omega)
        have a1 := G2.turn (t + 1) (u + 1)
        have a2 := G2.turn (u + 1) (t + 1)
        unfold aheadC at h3 h4
        omega
    have hj1 : ∀ k, 300 ≤ k → stencillaw13_XsortOnce.j1 k (again (cut l) o) = some true := by
      intro k hk
      obtain ⟨k, rfl⟩ : ∃ q, k = q + 1 := ⟨k - 1, by omega⟩
      have f2' : xsort_Order.f k (again (cut l) o) = some (ints p) := f2 k (by rw [ha0]; omega)
      rw [stencillaw13_XsortOnce.j1, f2', ob]
      exact once_l1 p (by omega) hmono p.length 0 k (-1) (by omega) (by omega) (fun j hj _ _ => by omega)
    refine ⟨2000, ?_⟩
    unfold stencillaw13_XsortOnce.f
    have f1' : xsort_Order.f 2000 (cut l) = some (ints o) := f1 _ (by omega)
    have c1 : (0 : Int) ≤ ((cut l).length : Int) := by omega
    have c2 : ((cut l).length : Int).toNat ≤ 281474976710656 := Nat.le_trans (show _ ≤ 40 by rw [Int.toNat_natCast]; exact h1) (by decide)
    have c3 : ((ints o).length : Int) = ((cut l).length : Int) := by rw [ints_length, hol]
    have fin := once_l0 (cut l) o h1 hol hin hnd 300 hj1 o.length 0 2000 (by omega) (by omega)
    rw [rows_f l _ (by omega), ob, eo]
    show (if true = true then _ else _) = _
    rw [if_pos rfl, f1', ob]
    show (if (0 : Int) ≤ ((cut l).length : Int) then _ else _) = _
    rw [if_pos c1, if_pos c2, if_pos c3, Int.toNat_natCast]
    exact fin
  · have eo : outR l = ([], [], false) := by unfold outR; rw [if_neg hR]
    refine ⟨2000, ?_⟩
    unfold stencillaw13_XsortOnce.f
    rw [rows_f l _ (by omega), ob, eo]
    show (if false = true then _ else _) = _
    rw [if_neg (by decide), live_at (by omega), ob]
end Go.Proofs.YthedigbdkjcpfaaDoor.Pure
