/- XsortOrders, without Go and memory. -/
import Derived.Test.YthedigbdkjcpfaaDoorPrintf4
import Derived.Test.YthedigbdkjcpfaaDoorPrintf18
import Derived.Test.YthedigbdkjcpfaaDoorPrintf16
import Derived.Test.YthedigbdkjcpfaaDoorPrintf15
import Derived.Test.YthedigbdkjcpfaaDoorPrintxsortorder
import Derived.Test.YthedigbdkjcpfaaDoorSortP
set_option linter.unusedVariables false
set_option linter.unusedSimpArgs false
namespace Go.Proofs.YthedigbdkjcpfaaDoor.Pure
open Go.RowKit Go.Proofs.YthedigbdkjcpfaaDoorW.PrintWords Go.Proofs.YthedigbdkjcpfaaDoor.Plain Go.Proofs.YthedigbdkjcpfaaDoor.Print Go.Proofs.YthedigbdkjcpfaaDoor.SortO Go.Proofs.YthedigbdkjcpfaaDoor.SortP
/-- two rows of the same places, both sorted, are one -/
theorem one_row {α : Type} {lt : α → α → Prop} (irr : ∀ x, ¬ lt x x) (tr : ∀ {x y z}, lt x y → lt y z → lt x z) : ∀ (l m : List α), l.Perm m → l.Pairwise lt → m.Pairwise lt → l = m
  | [], m, h, _, _ => (List.nil_perm.1 h).symm ▸ rfl
  | x :: l, [], h, _, _ => absurd h.length_eq (by simp)
  | x :: l, y :: m, h, hl, hm => by
    have hl2 := List.pairwise_cons.1 hl
    have hm2 := List.pairwise_cons.1 hm
    have hxy : x = y := by
      refine Classical.byContradiction fun e => ?_
      have hx : x ∈ m := by
        rcases List.mem_cons.1 (h.mem_iff.1 (List.mem_cons_self (a := x) (l := l))) with h1 | h1
        · exact absurd h1 e
        · exact h1
      have hy : y ∈ l := by
        rcases List.mem_cons.1 (h.mem_iff.2 (List.mem_cons_self (a := y) (l := m))) with h1 | h1
        · exact absurd h1.symm e
        · exact h1
      exact irr x (tr (hl2.1 y hy) (hm2.1 x hx))
    subst hxy
    rw [one_row irr tr l m ((List.perm_cons x).1 h) hl2.2 hm2.2]
section
variable {c : Nat → Nat → Int}
theorem ahead_irr (G : SortO.Good c) (x : Nat) : ¬ aheadC c x x := by have := G.refl x; unfold aheadC; omega
theorem ahead_tr (G : SortO.Good c) {x y z : Nat} (h1 : aheadC c x y) (h2 : aheadC c y z) : aheadC c x z := by
  unfold aheadC at *
  have t1 := G.trans x y z (by omega) (by omega)
  by_cases h : c x z < 0
  · exact .inl h
  · have hz : c x z = 0 := by omega
    have hzx := G.zero hz
    have a1 := G.trans y z x (by omega) (by omega)
    have a2 := G.trans z x y (by omega) (by omega)
    have b1 := G.turn x y
    have b2 := G.turn y x
    have b3 := G.turn y z
    have b4 := G.turn z y
    exact .inr ⟨hz, by omega⟩
end
def ints (o : List Nat) : List Int := o.map fun (x : Nat) => (x : Int)
theorem ints_length (o : List Nat) : (ints o).length = o.length := by simp [ints]
theorem rd_ints (o : List Nat) (i : Nat) (hi : i < o.length) : rd (ints o) (i : Int) = (o[i] : Int) := by
  unfold rd ints
  rw [Int.toNat_natCast, List.getD_eq_getElem?_getD, List.getElem?_map, List.getElem?_eq_getElem hi]
  rfl
theorem row2_at (l : List (List Key)) (i : Nat) (hi : i < l.length) : rd_L7 (rfs l) (i : Int) = l[i].map rf := by
  unfold rd_L7 rfs
  rw [Int.toNat_natCast, List.getD_eq_getElem?_getD, List.getElem?_map, List.getElem?_eq_getElem hi]
  rfl
/-- a place put into a sorted row -/
theorem put_sorted {c : Nat → Nat → Int} (G : SortO.Good c) {o : List Nat} {n p : Nat} (ho : o.Perm (List.range n)) (hs : o.Pairwise (aheadC c)) (hp : p ≤ o.length)
    (h1 : ∀ j (h : j < o.length), p ≤ j → c n o[j] < 0) (h2 : ∀ q (h : q < o.length), q + 1 = p → ¬ c n o[q] < 0) :
    (o.take p ++ [n] ++ o.drop p).Perm (List.range (n + 1)) ∧ (o.take p ++ [n] ++ o.drop p).Pairwise (aheadC c) := by
  have hlt : ∀ x ∈ o, x < n := fun x hx => List.mem_range.1 (ho.mem_iff.1 hx)
  constructor
  · have e : (o.take p ++ [n] ++ o.drop p).Perm (o ++ [n]) := by
      rw [List.append_assoc]
      refine (List.Perm.append_left _ List.perm_append_comm).trans ?_
      rw [← List.append_assoc, List.take_append_drop]
    rw [List.range_succ]
    exact e.trans (ho.append_right [n])
  · rw [List.append_assoc]
    have hs2 := hs
    rw [← List.take_append_drop p o] at hs2
    obtain ⟨s1, s2, s3⟩ := List.pairwise_append.1 hs2
    have hd : ∀ y ∈ o.drop p, aheadC c n y := fun y hy => by
      obtain ⟨j, hj, rfl⟩ := List.getElem_of_mem hy
      rw [List.getElem_drop]
      exact .inl (h1 _ (by rw [List.length_drop] at hj; omega) (by omega))
    have ht : ∀ x ∈ o.take p, aheadC c x n := fun x hx => by
      have hx0 : x ∈ o := List.mem_of_mem_take hx
      obtain ⟨j, hj, rfl⟩ := List.getElem_of_mem hx
      rw [List.length_take] at hj
      rw [List.getElem_take] at hx0 ⊢
      have last : aheadC c o[p - 1] n := by
        have h3 := h2 (p - 1) (by omega) (by omega)
        have h4 := hlt o[p - 1] (List.getElem_mem _)
        have t1 := G.turn n o[p - 1]
        have t2 := G.turn o[p - 1] n
        unfold aheadC
        omega
      by_cases e : j = p - 1
      · subst e; exact last
      · exact ahead_tr G (List.pairwise_iff_getElem.1 hs j (p - 1) (by omega) (by omega) (by omega)) last
    refine List.pairwise_append.2 ⟨s1, ?_, fun x hx y hy => ?_⟩
    · rw [List.singleton_append]
      exact List.pairwise_cons.2 ⟨hd, s2⟩
    · rcases List.mem_append.1 hy with h | h
      · rw [List.mem_singleton.1 h]; exact ht x hx
      · exact s3 x hx y h
/-- the document's order -/
theorem refOrder_l (l : List (List Key)) (hl : l.length ≤ 1000) (hR : ∀ r ∈ l, ∀ t ∈ r, RightK t) (hf : (l.getD 0 []).length ≤ 1000) : ∀ (m i : Nat) (o : List Nat), i + m = l.length → o.Perm (List.range i) → o.Pairwise (aheadC (cmpC l)) →
    ∃ o2 : List Nat, o2.Perm (List.range l.length) ∧ o2.Pairwise (aheadC (cmpC l)) ∧ ∃ K, ∀ k, K ≤ k → stencilref13_Order.l0 k (rfs l) (ints o) (i : Int) = some (ints o2)
  | 0, i, o, hi, ho, hs => by
    refine ⟨o, by rw [show l.length = i by omega]; exact ho, hs, 1, fun k hk => ?_⟩
    obtain ⟨k, rfl⟩ : ∃ q, k = q + 1 := ⟨k - 1, by omega⟩
    rw [stencilref13_Order.l0, if_neg (by rw [rfs, List.length_map]; omega)]
  | m + 1, i, o, hi, ho, hs => by
    have G := cmpC_good l
    have hil : i < l.length := by omega
    have hol : o.length = i := by have := ho.length_eq; rwa [List.length_range] at this
    have hlt : ∀ q (h : q < o.length), o[q] < i := fun q h => List.mem_range.1 (ho.mem_iff.1 (List.getElem_mem h))
    have hw : Aside0 (wrap64 ((i : Int) + 1) = ((i + 1 : Nat) : Int)) := ⟨by rw [w64s _ (by omega) (by omega)]; omega⟩
    have rl : ((rfs l).length : Int) = (l.length : Int) := by rw [rfs, List.length_map]
    have gx : ∀ x (h : x < l.length), l.getD x [] = l[x] := fun x h => by rw [List.getD_eq_getElem?_getD, List.getElem?_eq_getElem h]; rfl
    -- where it is put
    have put : ∀ p, p ≤ o.length → (∀ j (h : j < o.length), p ≤ j → cmpC l i o[j] < 0) → (∀ q (h : q < o.length), q + 1 = p → ¬ cmpC l i o[q] < 0) →
        ∃ o2 : List Nat, o2.Perm (List.range l.length) ∧ o2.Pairwise (aheadC (cmpC l)) ∧ ∃ K, ∀ k, K ≤ k → stencilref13_Order.l0 k (rfs l) (((ints o).take p ++ [(i : Int)]) ++ (ints o).drop p) (wrap64 ((i : Int) + 1)) = some (ints o2) := by
      intro p hp h1 h2
      obtain ⟨q1, q2⟩ := put_sorted G ho hs hp h1 h2
      obtain ⟨o2, r1, r2, K, r3⟩ := refOrder_l l hl hR hf m (i + 1) _ (by omega) q1 q2
      refine ⟨o2, r1, r2, K, fun k hk => ?_⟩
      have e : ints (o.take p ++ [i] ++ o.drop p) = ((ints o).take p ++ [(i : Int)]) ++ (ints o).drop p := by
        unfold ints
        rw [List.map_append, List.map_append, List.map_take, List.map_drop]
        rfl
      rw [hw.out, ← e]
      exact r3 k hk
    have go : ∀ p, p ≤ o.length → (∀ j (h : j < o.length), p ≤ j → cmpC l i o[j] < 0) →
        ∃ o2 : List Nat, o2.Perm (List.range l.length) ∧ o2.Pairwise (aheadC (cmpC l)) ∧ ∃ K, ∀ k, K ≤ k → stencilref13_Order.l1 k (rfs l) (ints o) (i : Int) (p : Int) = some (ints o2) := by
      intro p
      induction p with
      | zero =>
        intro hp h1
        obtain ⟨o2, r1, r2, K, r3⟩ := put 0 hp h1 (fun q h e => by omega)
        refine ⟨o2, r1, r2, K + 1, fun k hk => ?_⟩
        obtain ⟨k, rfl⟩ : ∃ q, k = q + 1 := ⟨k - 1, by omega⟩
        have r4 := r3 k (by omega)
        rw [stencilref13_Order.l1, if_neg (by omega), if_pos (by omega), if_pos (by rw [ints_length]; omega), ob, if_pos (by rw [List.length_take, ints_length]; show 0 + _ < _; omega), ob, if_pos (by rw [List.nil_append, List.length_take, ints_length]; omega), ob, ob, if_pos (by rw [List.length_append, List.nil_append, List.length_take, List.length_drop, ints_length, List.length_singleton]; omega), List.nil_append]
        exact r4
      | succ p ih =>
        intro hp h1
        have hpo : p < o.length := by omega
        have hw2 : Aside0 (wrap64 (((p + 1 : Nat) : Int) - 1) = (p : Int)) := ⟨by rw [w64s _ (by omega) (by omega)]; omega⟩
        have hoi := hlt p hpo
        have hA : ∀ k, 2 * (l.getD 0 []).length + 2 ≤ k → stencilref13_ahead.f k (rd_L7 (rfs l) 0) (rd_L7 (rfs l) (i : Int)) (rd_L7 (rfs l) (o[p] : Int)) = some (decide (cmpC l i o[p] < 0)) := fun k hk => by
          have e0 : rd_L7 (rfs l) (0 : Int) = l[0].map rf := row2_at l 0 (by omega)
          rw [row2_at l i hil, row2_at l o[p] (by omega), e0]
          have := ahead_f l[0] l[i] l[o[p]] (hR _ (List.getElem_mem _)) (hR _ (List.getElem_mem _)) (by have := gx 0 (by omega); rw [this] at hf; omega) k (by have := gx 0 (by omega); rw [this] at hk; exact hk)
          rw [this]
          unfold cmpC
          rw [gx 0 (by omega), gx i hil, gx o[p] (by omega)]
        have head : ∀ k, 2 * (l.getD 0 []).length + 2 ≤ k → stencilref13_Order.l1 (k + 1) (rfs l) (ints o) (i : Int) ((p + 1 : Nat) : Int) =
            (if decide (cmpC l i o[p] < 0) = true then stencilref13_Order.l1 k (rfs l) (ints o) (i : Int) (p : Int) else stencilref13_Order.l0 k (rfs l) (((ints o).take (p + 1) ++ [(i : Int)]) ++ (ints o).drop (p + 1)) (wrap64 ((i : Int) + 1))) := fun k hk => by
          rw [stencilref13_Order.l1, if_pos (by omega), if_pos (by omega), if_pos (by omega), if_pos (by omega), hw2.out, if_pos (by omega), if_pos (by rw [ints_length]; omega), rd_ints o p hpo, if_pos (by omega), if_pos (by omega), hA k hk, ob]
          by_cases e : decide (cmpC l i o[p] < 0) = true
          · rw [if_pos e, if_pos e]
          · rw [if_neg e, if_neg e, if_pos (by omega), if_pos (by rw [ints_length]; omega), ob, if_pos (by rw [List.length_take, ints_length]; show 0 + _ < _; omega), ob, if_pos (by rw [List.nil_append, List.length_take, ints_length]; omega), ob, ob, if_pos (by rw [List.length_append, List.nil_append, List.length_take, List.length_drop, ints_length, List.length_singleton]; omega), List.nil_append]
            rfl
        by_cases hc : cmpC l i o[p] < 0
        · obtain ⟨o2, r1, r2, K, r3⟩ := ih (by omega) (fun j h hj => by
            by_cases e : j = p
            · subst e; exact hc
            · exact h1 j h (by omega))
          refine ⟨o2, r1, r2, K + 2 * (l.getD 0 []).length + 3, fun k hk => ?_⟩
          obtain ⟨k, rfl⟩ : ∃ q, k = q + 1 := ⟨k - 1, by omega⟩
          rw [head k (by omega), if_pos (decide_eq_true hc)]
          exact r3 k (by omega)
        · obtain ⟨o2, r1, r2, K, r3⟩ := put (p + 1) hp h1 (fun q h e => by
            have : q = p := by omega
            subst this
            exact hc)
          refine ⟨o2, r1, r2, K + 2 * (l.getD 0 []).length + 3, fun k hk => ?_⟩
          obtain ⟨k, rfl⟩ : ∃ q, k = q + 1 := ⟨k - 1, by omega⟩
          rw [head k (by omega), if_neg (by simpa using hc)]
          exact r3 k (by omega)
    obtain ⟨o2, r1, r2, K, r3⟩ := go o.length (Nat.le_refl _) (fun j h hj => by omega)
    refine ⟨o2, r1, r2, K + 1, fun k hk => ?_⟩
    obtain ⟨k, rfl⟩ : ∃ q, k = q + 1 := ⟨k - 1, by omega⟩
    rw [stencilref13_Order.l0, if_pos (by omega), ints_length]
    exact r3 k (by omega)
theorem same_l (o : List Nat) (ho : o.length ≤ 1000) : ∀ (m i k : Nat), i + m = o.length → m + 1 ≤ k → stencilref01_SameInts.l0 k (ints o) (ints o) (i : Int) = some true
  | 0, i, k, hi, hk => by
    obtain ⟨k, rfl⟩ : ∃ q, k = q + 1 := ⟨k - 1, by omega⟩
    rw [stencilref01_SameInts.l0, if_neg (by rw [ints_length]; omega)]
  | m + 1, i, k, hi, hk => by
    obtain ⟨k, rfl⟩ : ∃ q, k = q + 1 := ⟨k - 1, by omega⟩
    have hw : Aside0 (wrap64 ((i : Int) + 1) = ((i + 1 : Nat) : Int)) := ⟨by rw [w64s _ (by omega) (by omega)]; omega⟩
    rw [stencilref01_SameInts.l0, if_pos (by rw [ints_length]; omega), if_pos (by omega), if_pos (by rw [ints_length]; omega), if_pos rfl, hw.out]
    exact same_l o ho m (i + 1) k (by omega) (by omega)
theorem same_f (o : List Nat) (ho : o.length ≤ 1000) (k : Nat) (hk : o.length + 1 ≤ k) : stencilref01_SameInts.f k (ints o) (ints o) = some true := by
  unfold stencilref01_SameInts.f
  rw [if_pos rfl]
  exact same_l o ho o.length 0 k (by omega) hk
theorem cut_first (l : List (List Key)) : ((cut l).getD 0 []).length ≤ 6 := by
  unfold cut
  rw [List.getD_eq_getElem?_getD, List.getElem?_map]
  cases (l.take 40)[0]? with
  | none => simp
  | some r => rw [Option.map_some, Option.getD_some, List.length_take]; omega
theorem cut_length (l : List (List Key)) : (cut l).length ≤ 40 := by simp [cut]; omega
theorem XsortOrders (l : List (List Key)) : ∃ k, stencillaw13_XsortOrders.f k l = some true := by
  by_cases hR : ∀ r ∈ cut l, ∀ t ∈ r, RightK t
  · have eo : outR l = (cut l, rfs (cut l), true) := by unfold outR; rw [if_pos hR]
    have h1 := cut_length l
    have h2 := cut_first l
    obtain ⟨o, p1, s1, f1⟩ := order_f (cut l) (by omega) (by omega)
    obtain ⟨o2, p2, s2, K, f2⟩ := refOrder_l (cut l) (by omega) hR (by omega) (cut l).length 0 [] (by omega) (List.Perm.refl _) List.Pairwise.nil
    have G := cmpC_good (cut l)
    have e : o = o2 := one_row (ahead_irr G) (fun h1 h2 => ahead_tr G h1 h2) o o2 (p1.trans p2.symm) s1 s2
    subst e
    have hol : o.length = (cut l).length := by have := p1.length_eq; rwa [List.length_range] at this
    refine ⟨K + 2000, ?_⟩
    unfold stencillaw13_XsortOrders.f
    have f2' : stencilref13_Order.f (K + 2000) (rfs (cut l)) = some (ints o) := f2 _ (by omega)
    have f1' : xsort_Order.f (K + 2000) (cut l) = some (ints o) := f1 _ (by omega)
    rw [rows_f l _ (by omega), ob, eo]
    show (if true = true then _ else _) = _
    rw [if_pos rfl, live_at (by omega), ob, if_pos rfl, f1', ob, f2', ob, same_f o (by omega) _ (by omega), ob]
  · have eo : outR l = ([], [], false) := by unfold outR; rw [if_neg hR]
    refine ⟨2000, ?_⟩
    unfold stencillaw13_XsortOrders.f
    rw [rows_f l _ (by omega), ob, eo]
    show (if false = true then _ else _) = _
    rw [if_neg (by decide), live_at (by omega), ob]
end Go.Proofs.YthedigbdkjcpfaaDoor.Pure
