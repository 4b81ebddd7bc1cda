/- XsortDown, without Go and memory. -/
import Derived.Test.YthedigbdkjcpfaaDoorPrintf7
import Derived.Test.YthedigbdkjcpfaaDoorPrintf10
import Derived.Test.YthedigbdkjcpfaaDoorPrintxsortorder
import Derived.Test.YthedigbdkjcpfaaDoorSortO
set_option linter.unusedVariables false
set_option linter.unusedSimpArgs false
namespace Go.Proofs.YthedigbdkjcpfaaDoor.Pure
open Go.RowKit Go.Proofs.YthedigbdkjcpfaaDoorW.PrintWords Go.Proofs.YthedigbdkjcpfaaDoor.Plain Go.Proofs.YthedigbdkjcpfaaDoor.Print Go.Proofs.YthedigbdkjcpfaaDoor.SortO
theorem live_f : stencillaw13_live.f 64 = some true := by kernel_rfl
theorem live_k (k : Nat) : stencillaw13_live.f (64 + k) = some true := by
  induction k with
  | zero => exact live_f
  | succ k ih => exact stencillaw13_live.mono _ _ ih
def dn (s : ByteArray) : List Key := [⟨false, true, s, ⟨0, 0⟩⟩]
theorem down_l0 (l : List ByteArray) (R : Option Bool) (K : Nat) (hR : ∀ k, K ≤ k → stencillaw13_XsortDown.j1 k ((l.take 30).map dn) = R) : ∀ (m j k : Nat), j + m = min l.length 30 → K ≤ k → stencillaw13_XsortDown.l0 (k + 1 + m) l ((l.take j).map dn) (j : Int) = R
  | 0, j, k, hj, hk => by
    have e : l.take j = l.take 30 := by
      rcases Nat.le_total l.length 30 with h | h
      · rw [List.take_of_length_le (by omega), List.take_of_length_le h]
      · rw [show j = 30 by omega]
    rw [Nat.add_zero, stencillaw13_XsortDown.l0, e, hR k hk]
    by_cases h : (j : Int) < (l.length : Int)
    · rw [if_pos h, if_neg (by omega)]
    · rw [if_neg h]
  | m + 1, j, k, hj, hk => by
    have hjl : j < l.length := by omega
    have ih := down_l0 l R K hR m (j + 1) k (by omega) hk
    have hw : wrap64 ((j : Int) + 1) = ((j + 1 : Nat) : Int) := by rw [w64s _ (by omega) (by omega)]; omega
    have er : rdOf ByteArray.empty l (j : Int) = l[j] := by
      unfold rdOf
      rw [Int.toNat_natCast, List.getD_eq_getElem?_getD, List.getElem?_eq_getElem hjl]
      rfl
    have et : (l.take j).map dn ++ [([(⟨false, true, rdOf ByteArray.empty l (j : Int), (⟨0, 0⟩ : S39)⟩ : S41)] : List (S41))] = (l.take (j + 1)).map dn := by
      rw [er, List.take_succ_eq_append_getElem hjl, List.map_append]
      rfl
    rw [show k + 1 + (m + 1) = k + 1 + m + 1 by omega, stencillaw13_XsortDown.l0, if_pos (by omega), if_pos (by omega), if_pos (by omega), if_pos (by rw [List.length_map, List.length_take]; omega), et, hw]
    exact ih
theorem cmp_dn (l : List ByteArray) (x y : Nat) (hx : x < (l.map dn).length) (hy : y < (l.map dn).length) : cmpC (l.map dn) x y = -(strC (l.getD x ⟨#[]⟩) (l.getD y ⟨#[]⟩)) := by
  have hx' : x < l.length := by simpa using hx
  have hy' : y < l.length := by simpa using hy
  have h0 : 0 < l.length := by omega
  unfold cmpC
  simp only [List.getD_eq_getElem?_getD, List.getElem?_map, List.getElem?_eq_getElem hx', List.getElem?_eq_getElem hy', List.getElem?_eq_getElem h0, Option.map_some, Option.getD_some]
  have e : rowC (dn l[0]) 0 (dn l[x]) (dn l[y]) = (if keyC ⟨false, true, l[0], ⟨0, 0⟩⟩ ⟨false, true, l[x], ⟨0, 0⟩⟩ ⟨false, true, l[y], ⟨0, 0⟩⟩ ≠ 0 then keyC ⟨false, true, l[0], ⟨0, 0⟩⟩ ⟨false, true, l[x], ⟨0, 0⟩⟩ ⟨false, true, l[y], ⟨0, 0⟩⟩ else 0) := rfl
  have e2 : keyC ⟨false, true, l[0], ⟨0, 0⟩⟩ ⟨false, true, l[x], ⟨0, 0⟩⟩ ⟨false, true, l[y], ⟨0, 0⟩⟩ = -(strC l[x] l[y]) := by simp [keyC]
  rw [e, e2]
  split <;> omega
theorem rd_ints (o : List Nat) (i : Nat) (hi : i < o.length) : rd (o.map fun (x : Nat) => (x : Int)) (i : Int) = (o[i] : Int) := by
  unfold rd
  rw [Int.toNat_natCast, List.getD_eq_getElem?_getD, List.getElem?_map, List.getElem?_eq_getElem hi]
  rfl
theorem row_dn (l : List ByteArray) (p : Nat) (hp : p < l.length) : rd_L5 (l.map dn) (p : Int) = dn l[p] := by
  unfold rd_L5
  rw [Int.toNat_natCast, List.getD_eq_getElem?_getD, List.getElem?_map, List.getElem?_eq_getElem hp]
  rfl
theorem down_l1 (l : List ByteArray) (o : List Nat) (hl : l.length ≤ 30) (ho : o.length = l.length) (hin : ∀ i (h : i < o.length), o[i] < l.length) (hs : o.Pairwise (fun x y => aheadC (cmpC (l.map dn)) x y)) :
    ∀ (m i k : Nat), 1 ≤ i → i + m = max o.length 1 → 64 ≤ k → stencillaw13_XsortDown.l1 (k + 1 + m) (l.map dn) (o.map fun (x : Nat) => (x : Int)) (i : Int) = some true
  | 0, i, k, h1, hi, hk => by
    rw [Nat.add_zero, stencillaw13_XsortDown.l1, if_neg (by rw [List.length_map]; omega)]
    obtain ⟨j, rfl⟩ : ∃ j, k = 64 + j := ⟨k - 64, by omega⟩
    rw [live_k, ob]
  | m + 1, i, k, h1, hi, hk => by
    have hio : i < o.length := by omega
    have ih := down_l1 l o hl ho hin hs m (i + 1) k (by omega) (by omega) hk
    have hw : wrap64 ((i : Int) + 1) = ((i + 1 : Nat) : Int) := by rw [w64s _ (by omega) (by omega)]; omega
    obtain ⟨j, hj⟩ : ∃ j, j + 1 = i := ⟨i - 1, by omega⟩
    have hw2 : wrap64 ((i : Int) - 1) = (j : Int) := by rw [w64s _ (by omega) (by omega)]; omega
    have hjo : j < o.length := by omega
    have hp := hin j hjo
    have hq := hin i hio
    have ha := List.pairwise_iff_getElem.1 hs j i hjo hio (by omega)
    have hc := cmp_dn l o[j] o[i] (by rw [List.length_map]; exact hp) (by rw [List.length_map]; exact hq)
    have gp : l.getD o[j] ⟨#[]⟩ = l[o[j]] := by rw [List.getD_eq_getElem?_getD, List.getElem?_eq_getElem hp]; rfl
    have gq : l.getD o[i] ⟨#[]⟩ = l[o[i]] := by rw [List.getD_eq_getElem?_getD, List.getElem?_eq_getElem hq]; rfl
    rw [gp, gq] at hc
    unfold aheadC at ha
    rw [hc] at ha
    have d0 : ∀ s, (rd_T41 (dn s) 0).f2 = s := fun s => rfl
    have dl : ∀ s, ((dn s).length : Int) = 1 := fun s => rfl
    have rest : stencillaw13_XsortDown.l1 (k + 1 + (m + 1)) (l.map dn) (o.map fun (x : Nat) => (x : Int)) (i : Int) =
        (if (Op.bytesLess (l[o[j]]).toList (l[o[i]]).toList) = true then (some false) else (if (l[o[j]]).toList = (l[o[i]]).toList then (if (o[j] : Int) > (o[i] : Int) then (some false) else some true) else some true)) := by
      rw [show k + 1 + (m + 1) = k + 1 + m + 1 by omega, stencillaw13_XsortDown.l1, if_pos (by rw [List.length_map]; omega), hw2, if_pos (by omega), if_pos (by rw [List.length_map]; omega), rd_ints o j hjo, if_pos (by omega), if_pos (by rw [List.length_map]; omega), row_dn l _ hp, dl, if_pos (by omega), if_pos (by omega), rd_ints o i hio, if_pos (by omega), if_pos (by rw [List.length_map]; omega), row_dn l _ hq, dl, if_pos (by omega), d0, d0, hw, ih]
    rw [rest]
    unfold strC at ha
    cases b1 : Op.bytesLess (l[o[j]]).toList (l[o[i]]).toList with
    | true =>
      rw [b1, if_pos rfl] at ha
      omega
    | false =>
      rw [if_neg (by decide)]
      by_cases e : (l[o[j]]).toList = (l[o[i]]).toList
      · rw [if_pos e]
        rw [b1, if_neg (by decide), ← e, bl_irr, if_neg (by decide)] at ha
        rw [if_neg (by omega)]
      · rw [if_neg e]
theorem XsortDown (l : List ByteArray) : ∃ k, stencillaw13_XsortDown.f k l = some true := by
  have hlen : ((l.take 30).map dn).length ≤ 30 := by rw [List.length_map, List.length_take]; omega
  have hfirst : (((l.take 30).map dn).getD 0 []).length ≤ 1 := by
    rw [List.getD_eq_getElem?_getD, List.getElem?_map]
    cases (l.take 30)[0]? with
    | none => simp
    | some s => exact Nat.le_refl _
  obtain ⟨o, hperm, hs, ho⟩ := order_f ((l.take 30).map dn) (by omega) (by omega)
  have hol : o.length = (l.take 30).length := by have := hperm.length_eq; rwa [List.length_range, List.length_map] at this
  have h30 : (l.take 30).length ≤ 30 := by rw [List.length_take]; omega
  have hj : ∀ k, 200 ≤ k → stencillaw13_XsortDown.j1 k ((l.take 30).map dn) = some true := by
    intro k hk
    obtain ⟨k, rfl⟩ : ∃ j, k = j + 1 + (max o.length 1 - 1) + 1 := ⟨k - 1 - (max o.length 1 - 1) - 1, by omega⟩
    rw [stencillaw13_XsortDown.j1, ho _ (by omega), ob, if_pos (by rw [List.length_map, List.length_map]; omega)]
    exact down_l1 (l.take 30) o h30 hol (fun i h => by have := List.mem_range.1 (hperm.mem_iff.1 (List.getElem_mem h)); rwa [List.length_map] at this) hs _ 1 k (Nat.le_refl _) (by omega) (by omega)
  refine ⟨200 + 1 + min l.length 30, ?_⟩
  unfold stencillaw13_XsortDown.f
  have := down_l0 l (some true) 200 hj (min l.length 30) 0 200 (by omega) (Nat.le_refl _)
  simpa using this
end Go.Proofs.YthedigbdkjcpfaaDoor.Pure
