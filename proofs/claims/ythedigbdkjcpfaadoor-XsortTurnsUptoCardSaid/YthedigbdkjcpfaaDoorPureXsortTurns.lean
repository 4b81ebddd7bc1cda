/- XsortTurns, without Go and memory. -/
import Derived.Test.YthedigbdkjcpfaaDoorPrintlaw13turns
import Derived.Test.YthedigbdkjcpfaaDoorPrintf10
import Derived.Test.YthedigbdkjcpfaaDoorPrintxsortorder
import Derived.Test.YthedigbdkjcpfaaDoorSortO
set_option linter.unusedVariables false
set_option linter.unusedSimpArgs false
namespace Go.Proofs.YthedigbdkjcpfaaDoor.Pure
open Go.RowKit Go.Proofs.YthedigbdkjcpfaaDoorW.PrintWords Go.Proofs.YthedigbdkjcpfaaDoor.Plain Go.Proofs.YthedigbdkjcpfaaDoor.Print Go.Proofs.YthedigbdkjcpfaaDoor.SortO
theorem live_f : stencillaw13_live.f 64 = some true := by kernel_rfl
theorem live_k (k : Nat) : stencillaw13_live.f (64 + k) = some true := by
  induction k with
  | zero => exact live_f
  | succ k ih => exact stencillaw13_live.mono _ _ ih
theorem live_at {k : Nat} (h : 64 ≤ k) : stencillaw13_live.f k = some true := by
  obtain ⟨j, rfl⟩ : ∃ j, k = 64 + j := ⟨k - 64, by omega⟩
  exact live_k j
def ints (o : List Nat) : List Int := o.map fun (x : Nat) => (x : Int)
theorem ints_length (o : List Nat) : (ints o).length = o.length := by simp [ints]
theorem rd_ints (o : List Nat) (i : Nat) (hi : i < o.length) : rd (ints o) (i : Int) = (o[i] : Int) := by
  unfold rd ints
  rw [Int.toNat_natCast, List.getD_eq_getElem?_getD, List.getElem?_map, List.getElem?_eq_getElem hi]
  rfl
/-- two rows of the same things, both sorted by an order that tells unlike ones apart, are one -/
theorem two_rows {α : Type} {r : α → α → Prop} (anti : ∀ x y, r x y → r y x → x = y) : ∀ (l m : List α), l.Perm m → l.Pairwise r → m.Pairwise r → l = m
  | [], m, h, _, _ => (List.nil_perm.1 h).symm ▸ rfl
  | x :: l, [], h, _, _ => absurd h.length_eq (by simp)
  | x :: l, y :: m, h, hl, hm => by
    have hl2 := List.pairwise_cons.1 hl
    have hm2 := List.pairwise_cons.1 hm
    have hxy : x = y := by
      refine Classical.byContradiction fun e => ?_
      have hx : x ∈ m := by
        rcases List.mem_cons.1 (h.mem_iff.1 (List.mem_cons_self (a := x) (l := l))) with h1 | h1
        · exact absurd h1 e
        · exact h1
      have hy : y ∈ l := by
        rcases List.mem_cons.1 (h.mem_iff.2 (List.mem_cons_self (a := y) (l := m))) with h1 | h1
        · exact absurd h1.symm e
        · exact h1
      exact e (anti x y (hl2.1 y hy) (hm2.1 x hx))
    subst hxy
    rw [two_rows anti l m ((List.perm_cons x).1 h) hl2.2 hm2.2]
theorem cmp_tk (l : List ByteArray) (x y : Nat) (hx : x < l.length) (hy : y < l.length) : cmpC (turnT l) x y = strC l[x] l[y] := by
  have h0 : 0 < l.length := by omega
  unfold cmpC turnT
  simp only [List.getD_eq_getElem?_getD, List.getElem?_map, List.getElem?_eq_getElem hx, List.getElem?_eq_getElem hy, List.getElem?_eq_getElem h0, Option.map_some, Option.getD_some]
  have e : rowC [tk l[0]] 0 [tk l[x]] [tk l[y]] = (if keyC (tk l[0]) (tk l[x]) (tk l[y]) ≠ 0 then keyC (tk l[0]) (tk l[x]) (tk l[y]) else 0) := rfl
  have e2 : keyC (tk l[0]) (tk l[x]) (tk l[y]) = strC l[x] l[y] := by simp [keyC, tk]
  rw [e, e2]
  split <;> omega
theorem row_tk (l : List ByteArray) (p : Nat) (hp : p < l.length) : rd_L5 (turnT l) (p : Int) = [tk l[p]] := by
  unfold rd_L5 turnT
  rw [Int.toNat_natCast, List.getD_eq_getElem?_getD, List.getElem?_map, List.getElem?_eq_getElem hp]
  rfl
/-- the texts in their order -/
def told (l : List ByteArray) (o : List Nat) : List (List UInt8) := o.map fun x => (l.getD x ByteArray.empty).toList
theorem told_at (l : List ByteArray) (o : List Nat) (i : Nat) (hi : i < o.length) (hx : o[i] < l.length) : (told l o)[i]? = some (l[o[i]]).toList := by
  unfold told
  rw [List.getElem?_map, List.getElem?_eq_getElem hi, Option.map_some, List.getD_eq_getElem?_getD, List.getElem?_eq_getElem hx]
  rfl
theorem told_perm (l : List ByteArray) (o : List Nat) (h : o.Perm (List.range l.length)) : (told l o).Perm (l.map ByteArray.toList) := by
  have h1 := h.map fun x => (l.getD x ByteArray.empty).toList
  have h2 : (List.range l.length).map (fun x => (l.getD x ByteArray.empty).toList) = l.map ByteArray.toList := by
    apply List.ext_getElem?
    intro j
    by_cases hj : j < l.length
    · rw [List.getElem?_map, List.getElem?_range hj, List.getElem?_map, List.getElem?_eq_getElem hj, Option.map_some, Option.map_some, List.getD_eq_getElem?_getD, List.getElem?_eq_getElem hj]; rfl
    · rw [List.getElem?_map, List.getElem?_eq_none (by simpa using hj), List.getElem?_map, List.getElem?_eq_none (by simpa using hj)]; rfl
  rw [h2] at h1
  exact h1
theorem told_sorted (l : List ByteArray) (o : List Nat) (hin : ∀ x ∈ o, x < l.length) (hs : o.Pairwise (aheadC (cmpC (turnT l)))) : (told l o).Pairwise (fun x y => Op.bytesLess y x = false) := by
  unfold told
  rw [List.pairwise_map]
  refine List.Pairwise.imp_of_mem (fun {x y} hx hy h => ?_) hs
  have h1 := hin x hx
  have h2 := hin y hy
  unfold aheadC at h
  rw [cmp_tk l x y h1 h2] at h
  rw [List.getD_eq_getElem?_getD (i := x), List.getElem?_eq_getElem h1, List.getD_eq_getElem?_getD (i := y), List.getElem?_eq_getElem h2]
  show Op.bytesLess (l[y]).toList (l[x]).toList = false
  unfold strC at h
  cases b : Op.bytesLess (l[x]).toList (l[y]).toList with
  | true => exact bl_asy _ _ b
  | false =>
    rw [b] at h
    cases b2 : Op.bytesLess (l[y]).toList (l[x]).toList with
    | false => rfl
    | true => rw [b2] at h; simp at h
theorem told_pair (l : List ByteArray) (o : List Nat) (hs : (told l o).Pairwise (fun x y => Op.bytesLess y x = false)) (i j : Nat) (hi : i < o.length) (hj : j < o.length) (hji : j < i) (hx : o[i] < l.length) (hz : o[j] < l.length) :
    Op.bytesLess (l[o[i]]).toList (l[o[j]]).toList = false := by
  have hlen : (told l o).length = o.length := by simp [told]
  have hi2 : i < (told l o).length := by omega
  have hj2 : j < (told l o).length := by omega
  have h1 := List.pairwise_iff_getElem.1 hs j i hj2 hi2 hji
  have g1 := told_at l o i hi hx
  have g2 := told_at l o j hj hz
  rw [List.getElem?_eq_getElem hi2] at g1
  rw [List.getElem?_eq_getElem hj2] at g2
  rw [Option.some.inj g1, Option.some.inj g2] at h1
  exact h1
theorem turn_l0 (la lb : List ByteArray) (o p : List Nat) (n : Nat) (hn : n ≤ 30) (ha : la.length = n) (hb : lb.length = n) (ho : o.length = n) (hp : p.length = n) (hoi : ∀ i (h : i < o.length), o[i] < la.length) (hpi : ∀ i (h : i < p.length), p[i] < lb.length)
    (he : told la o = told lb p) (hs : (told la o).Pairwise (fun x y => Op.bytesLess y x = false)) : ∀ (m i k : Nat), i + m = n → m + 70 ≤ k →
    stencillaw13_XsortTurnsZ.l0 k (turnT la) (turnT lb) (n : Int) (ints o) (ints p) (i : Int) = some true := by
  intro m
  induction m with
  | zero =>
    intro i k hi hk
    obtain ⟨k, rfl⟩ : ∃ q, k = q + 1 := ⟨k - 1, by omega⟩
    rw [stencillaw13_XsortTurnsZ.l0, if_neg (by omega), live_at (by omega), ob]
  | succ m IH =>
    intro i k hi hk
    obtain ⟨k, rfl⟩ : ∃ q, k = q + 1 := ⟨k - 1, by omega⟩
    have ih := IH (i + 1) k (by omega) (by omega)
    have hio : i < o.length := by omega
    have hip : i < p.length := by omega
    have hx := hoi i hio
    have hy := hpi i hip
    have lA : ((turnT la).length : Int) = (n : Int) := by simp [turnT, ha]
    have lB : ((turnT lb).length : Int) = (n : Int) := by simp [turnT, hb]
    have lo : ((ints o).length : Int) = (n : Int) := by rw [ints_length, ho]
    have lp : ((ints p).length : Int) = (n : Int) := by rw [ints_length, hp]
    have t0 : ∀ s, (rd_T41 [tk s] 0).f2 = s := fun s => rfl
    have tl : ∀ s : ByteArray, (([tk s] : List S41).length : Int) = 1 := fun s => rfl
    have eq : (la[o[i]]).toList = (lb[p[i]]).toList := by
      have h1 := told_at la o i hio hx
      rw [he, told_at lb p i hip hy] at h1
      exact (Option.some.inj h1).symm
    have c1 : (i : Int) < (n : Int) := by omega
    have c2 : (0 : Int) ≤ (i : Int) := by omega
    have c3 : (0 : Int) ≤ (o[i] : Int) := by omega
    have c4 : (o[i] : Int) < (n : Int) := by omega
    have c5 : (0 : Int) ≤ (p[i] : Int) := by omega
    have c6 : (p[i] : Int) < (n : Int) := by omega
    have c7 : (0 : Int) < 1 := by omega
    have nx : stencillaw13_XsortTurnsZ.l0 k (turnT la) (turnT lb) (n : Int) (ints o) (ints p) (wrap64 ((i : Int) + 1)) = some true := by
      have hw : wrap64 ((i : Int) + 1) = ((i + 1 : Nat) : Int) := by rw [w64s _ (by omega) (by omega)]; omega
      rw [hw]; exact ih
    rw [stencillaw13_XsortTurnsZ.l0, if_pos c1, if_pos c2, lo, if_pos c1, rd_ints o i hio, if_pos c3, lA, if_pos c4, row_tk la _ hx, tl, if_pos c7, lp, if_pos c1, rd_ints p i hip, if_pos c5, lB, if_pos c6, row_tk lb _ hy, tl, if_pos c7, t0, t0, if_pos eq, nx]
    by_cases h0 : (i : Int) > 0
    · obtain ⟨j, hj⟩ : ∃ j, j + 1 = i := ⟨i - 1, by clear lA lB lo lp nx ih eq t0 tl; omega⟩
      have hjo : j < o.length := by clear lA lB lo lp nx ih eq t0 tl; omega
      have hz := hoi j hjo
      have d1 : (0 : Int) ≤ (j : Int) := by clear lA lB lo lp nx ih eq t0 tl; omega
      have d2 : (j : Int) < (n : Int) := by clear lA lB lo lp nx ih eq t0 tl; omega
      have d3 : (0 : Int) ≤ (o[j] : Int) := by clear lA lB lo lp nx ih eq t0 tl; omega
      have d4 : (o[j] : Int) < (n : Int) := by clear lA lB lo lp nx ih eq t0 tl; omega
      have le : Op.bytesLess (la[o[i]]).toList (la[o[j]]).toList = false := by
        exact told_pair la o hs i j hio hjo (by clear lA lB lo lp nx ih eq t0 tl; omega) hx hz
      have hw2 : wrap64 ((i : Int) - 1) = (j : Int) := by clear lA lB lo lp nx ih eq t0 tl; rw [w64s _ (by omega) (by omega)]; omega
      rw [if_pos h0, hw2, if_pos d1, if_pos d2, rd_ints o j hjo, if_pos d3, if_pos d4, row_tk la _ hz, tl, if_pos c7, t0, le, if_neg (by decide)]
    · rw [if_neg h0]
theorem XsortTurns (l : List ByteArray) : ∃ k, stencillaw13_XsortTurns.f k l = some true := by
  have h30 : turnN l ≤ 30 := by unfold turnN; omega
  have hA : (turnA l).length = turnN l := by unfold turnA turnN; rw [List.length_take]; omega
  have hB : (turnB l).length = turnN l := by unfold turnB turnN; rw [List.length_reverse, List.length_take]; omega
  have hT : ∀ l : List ByteArray, (turnT l).length = l.length := fun l => by simp [turnT]
  have hF : ∀ l : List ByteArray, ((turnT l).getD 0 []).length ≤ 1 := fun l => by
    unfold turnT
    rw [List.getD_eq_getElem?_getD, List.getElem?_map]
    cases l[0]? with
    | none => simp
    | some s => exact Nat.le_refl _
  have fA := hF (turnA l)
  have fB := hF (turnB l)
  obtain ⟨o, p1, s1, f1⟩ := order_f (turnT (turnA l)) (by rw [hT]; omega) (by omega)
  obtain ⟨p, p2, s2, f2⟩ := order_f (turnT (turnB l)) (by rw [hT]; omega) (by omega)
  rw [hT] at p1 p2
  have ho : o.length = turnN l := by have := p1.length_eq; rw [List.length_range] at this; omega
  have hp : p.length = turnN l := by have := p2.length_eq; rw [List.length_range] at this; omega
  have io : ∀ x ∈ o, x < (turnA l).length := fun x hx => List.mem_range.1 (p1.mem_iff.1 hx)
  have ip : ∀ x ∈ p, x < (turnB l).length := fun x hx => List.mem_range.1 (p2.mem_iff.1 hx)
  have ss1 := told_sorted (turnA l) o io s1
  have ss2 := told_sorted (turnB l) p ip s2
  have hperm : (told (turnA l) o).Perm (told (turnB l) p) := by
    refine (told_perm _ o p1).trans (List.Perm.trans ?_ (told_perm _ p p2).symm)
    have : turnB l = (turnA l).reverse := rfl
    rw [this]
    exact ((List.reverse_perm (turnA l)).symm).map _
  have he := two_rows (fun x y h1 h2 => bl_tri x y h2 h1) _ _ hperm ss1 ss2
  refine ⟨302, ?_⟩
  have f1' : xsort_Order.f 302 (turnT (turnA l)) = some (ints o) := f1 _ (by omega)
  have f2' : xsort_Order.f 302 (turnT (turnB l)) = some (ints p) := f2 _ (by omega)
  have q1 : ((ints o).length : Int) = (turnN l : Int) := by rw [ints_length, ho]
  have q2 : (((ints p).length : Int) != (turnN l : Int)) = false := by rw [ints_length, hp]; simp
  unfold stencillaw13_XsortTurns.f stencillaw13_XsortTurnsZ.f
  rw [f1', ob, f2', ob, if_pos q1, q2, stencillaw13_XsortTurnsZ.j0, if_neg (by decide)]
  exact turn_l0 (turnA l) (turnB l) o p (turnN l) h30 hA hB ho hp (fun i h => io _ (List.getElem_mem h)) (fun i h => ip _ (List.getElem_mem h)) he ss1 (turnN l) 0 301 (by omega) (by omega)
end Go.Proofs.YthedigbdkjcpfaaDoor.Pure
