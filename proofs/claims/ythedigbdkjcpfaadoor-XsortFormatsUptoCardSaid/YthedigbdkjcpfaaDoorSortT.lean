/- The document's small functions on formats, without Go and memory. -/
import Derived.Test.YthedigbdkjcpfaaDoorPrintf33
import Derived.Test.YthedigbdkjcpfaaDoorPrintlibtrimleft
import Derived.Test.YthedigbdkjcpfaaDoorPrintf3
import Derived.Test.YthedigbdkjcpfaaDoorPrintf38
import Derived.Test.YthedigbdkjcpfaaDoorSortL
import Derived.Test.YthedigbdkjcpfaaDoorNumD
set_option linter.unusedSimpArgs false
namespace Go.Proofs.YthedigbdkjcpfaaDoor.SortL
open Go.RowKit Go.Proofs.YthedigbdkjcpfaaDoorW.PrintWords Go.Proofs.YthedigbdkjcpfaaDoor.Plain Go.Proofs.YthedigbdkjcpfaaDoor.Print Go.Proofs.YthedigbdkjcpfaaDoor.NumD
open Go.Lib (decDigits)
theorem BL (l : List UInt8) : (B l).toList = l := by rw [Lib.toList_data]; rfl
theorem liftF {α : Type} {f : Nat → Option α} (mono : ∀ k, LeO (f k) (f (k + 1))) {k : Nat} {r : α} (h : f k = some r) : ∀ j, f (k + j) = some r
  | 0 => h
  | j + 1 => mono _ r (liftF mono h j)
theorem liftK {α : Type} {f : Nat → Option α} (mono : ∀ k, LeO (f k) (f (k + 1))) {k m : Nat} {r : α} (h : f k = some r) (hm : k ≤ m) : f m = some r := by
  obtain ⟨j, rfl⟩ : ∃ j, m = k + j := ⟨m - k, by omega⟩
  exact liftF mono h j
theorem bt_drop {l : List UInt8} {i : Nat} {c : UInt8} {p : List UInt8} (h : l.drop i = c :: p) : bt (B l) (i : Int) = (c.toNat : Int) := by
  have hi : i < l.length := by
    have := congrArg List.length h
    rw [List.length_drop, List.length_cons] at this
    omega
  have hc : l[i] = c := by
    have := List.getElem_drop (xs := l) (i := i) (j := 0) (h := by rw [h]; simp)
    simp only [h, List.getElem_cons_zero, Nat.add_zero] at this
    exact this.symm
  unfold bt
  rw [Int.toNat_natCast, dif_pos (by rw [B_size]; exact hi), ← hc]
  rfl
theorem drop_next {l : List UInt8} {i : Nat} {c : UInt8} {p : List UInt8} (h : l.drop i = c :: p) : l.drop (i + 1) = p := by rw [← List.drop_drop, h]; rfl
theorem w64s {x : Int} (h : -1000000000000 ≤ x) (h2 : x ≤ 1000000000000) : wrap64 x = x := w64 (by omega) (by omega)
/-- is a format noughts and a 1? -/
def plB : List UInt8 → Bool
  | [] => false
  | [c] => c == 49
  | c :: d :: t => c == 48 && plB (d :: t)
theorem plB_trim : ∀ F : List UInt8, (Lib.trimLeftS F [48] == [49]) = plB F
  | [] => by decide
  | [c] => by
    unfold Lib.trimLeftS
    rw [List.dropWhile_cons]
    by_cases h : c = 48
    · subst h; decide
    · rw [if_neg (by simpa using h)]
      simp [plB]
  | c :: d :: t => by
    have ih := plB_trim (d :: t)
    unfold Lib.trimLeftS at ih ⊢
    rw [List.dropWhile_cons]
    by_cases h : c = 48
    · subst h
      rw [if_pos (by decide), ih]
      simp [plB]
    · rw [if_neg (by simpa using h)]
      simp [plB, h]
theorem plain_prog (F : List UInt8) : xsort_plain.f (B F) = some (plB F) := by
  unfold xsort_plain.f strings_TrimLeft.f
  rw [if_pos ⟨by decide, by decide⟩, obind]
  show some ((B (Lib.trimLeftS F [48])).toList == [49]) = _
  rw [BL, plB_trim]
theorem plain_l0 (F : List UInt8) (hz : F.length ≤ 1000000) : ∀ (p : List UInt8) (i k : Nat), F.drop i = p → p ≠ [] → i + p.length = F.length → p.length ≤ k → stencilref13_plain.l0 k (B F) (i : Int) = some (plB p)
  | [], _, _, _, h, _, _ => absurd rfl h
  | [c], i, k, hd, _, hl, hk => by
    obtain ⟨k, rfl⟩ : ∃ j, k = j + 1 := ⟨k - 1, by simp only [List.length_cons, List.length_nil] at hk; omega⟩
    simp only [List.length_cons, List.length_nil] at hl
    have hb := bt_drop hd
    have e : wrap64 (((B F).size : Int) - 1) = (i : Int) := by rw [B_size, w64s] <;> omega
    have hF : (B F).toList ≠ [] := by rw [BL]; intro h; rw [h] at hl; simp at hl
    rw [stencilref13_plain.l0, if_neg (by rw [w64s (by omega) (by omega), B_size]; omega), if_neg hF, e, if_pos (by omega), if_pos (by rw [B_size]; omega), hb]
    have : ((c.toNat : Int) == 49) = (c == 49) := by
      rw [Bool.eq_iff_iff, beq_iff_eq, beq_iff_eq]
      constructor
      · intro h
        exact UInt8.toNat_inj.1 (show c.toNat = (49 : UInt8).toNat by show _ = 49; omega)
      · intro h; rw [h]; rfl
    rw [this]
    rfl
  | c :: d :: t, i, k, hd, _, hl, hk => by
    obtain ⟨k, rfl⟩ : ∃ j, k = j + 1 := ⟨k - 1, by simp only [List.length_cons] at hk; omega⟩
    simp only [List.length_cons] at hl hk
    have hb := bt_drop hd
    have e : wrap64 ((i : Int) + 1) = ((i + 1 : Nat) : Int) := by rw [w64s] <;> omega
    rw [stencilref13_plain.l0, e, if_pos (by rw [B_size]; omega), if_pos (by omega), if_pos (by rw [B_size]; omega), hb]
    by_cases h : c = 48
    · subst h
      rw [if_pos (by decide), plain_l0 F hz (d :: t) (i + 1) k (drop_next hd) (by simp) (by simp only [List.length_cons]; omega) (by simp only [List.length_cons]; omega)]
      simp [plB]
    · have hne : ¬ (c.toNat : Int) = 48 := fun hh => h (UInt8.toNat_inj.1 (show c.toNat = (48 : UInt8).toNat by show _ = 48; omega))
      rw [if_neg hne]
      simp [plB, h]
theorem plain_ref (F : List UInt8) (hz : F.length ≤ 1000000) (k : Nat) (hk : F.length + 1 ≤ k) : stencilref13_plain.f k (B F) = some (plB F) := by
  unfold stencilref13_plain.f
  by_cases h : F = []
  · subst h
    obtain ⟨k, rfl⟩ : ∃ j, k = j + 1 := ⟨k - 1, by omega⟩
    rw [stencilref13_plain.l0, if_neg (by rw [w64s (by omega) (by omega), B_size]; simp), if_pos (BL [])]
    rfl
  · exact plain_l0 F hz F 0 k rfl h (by omega) (by omega)
def asI (l : List UInt8) : List Int := l.map fun c => (c.toNat : Int)
theorem asI_str (l : List UInt8) : strOfNums (asI l) = B l := by
  apply bytes_eq
  rw [strOfNums_data, asI, List.map_map, B_list]
  conv => rhs; rw [← List.map_id l]
  refine List.map_congr_left fun c _ => ?_
  simp
theorem sub_u8 (c : UInt8) : ((c.toNat : Int) - 32) % 256 = ((c - 32).toNat : Int) := by
  rw [UInt8.toNat_sub]
  have := c.toNat_lt
  simp
  omega
theorem add_u8 (c : UInt8) : ((c.toNat : Int) + 32) % 256 = ((c + 32).toNat : Int) := by
  rw [UInt8.toNat_add]
  simp
theorem upper_l0 (l : List UInt8) (hz : l.length ≤ 1000000) : ∀ (p : List UInt8) (i k : Nat) (acc : List UInt8), l.drop i = p → i + p.length = l.length → acc.length = i → p.length + 1 ≤ k → stencilref13_upper.l0 k (B l) (asI acc) (i : Int) = some (B (acc ++ p.map (· - 32)))
  | [], i, k, acc, _, hl, _, hk => by
    obtain ⟨k, rfl⟩ : ∃ j, k = j + 1 := ⟨k - 1, by omega⟩
    simp only [List.length_nil] at hl
    rw [stencilref13_upper.l0, if_neg (by rw [B_size]; omega), asI_str]
    simp
  | c :: p, i, k, acc, hd, hl, ha, hk => by
    obtain ⟨k, rfl⟩ : ∃ j, k = j + 1 := ⟨k - 1, by omega⟩
    simp only [List.length_cons] at hl hk
    have e : wrap64 ((i : Int) + 1) = ((i + 1 : Nat) : Int) := by rw [w64s] <;> omega
    have hal : (asI acc).length = acc.length := by unfold asI; rw [List.length_map]
    have hx : asI acc ++ [((c.toNat : Int) - 32) % 256] = asI (acc ++ [c - 32]) := by unfold asI; rw [List.map_append, sub_u8]; rfl
    rw [stencilref13_upper.l0, if_pos (by rw [B_size]; omega), if_pos (by omega), if_pos (by rw [hal]; omega), bt_drop hd, e, hx, upper_l0 l hz p (i + 1) k (acc ++ [c - 32]) (drop_next hd) (by omega) (by rw [List.length_append, ha]; rfl) (by omega)]
    simp
theorem lower_l0 (l : List UInt8) (hz : l.length ≤ 1000000) : ∀ (p : List UInt8) (i k : Nat) (acc : List UInt8), l.drop i = p → i + p.length = l.length → acc.length = i → p.length + 1 ≤ k → stencilref13_lower.l0 k (B l) (asI acc) (i : Int) = some (B (acc ++ p.map (· + 32)))
  | [], i, k, acc, _, hl, _, hk => by
    obtain ⟨k, rfl⟩ : ∃ j, k = j + 1 := ⟨k - 1, by omega⟩
    simp only [List.length_nil] at hl
    rw [stencilref13_lower.l0, if_neg (by rw [B_size]; omega), asI_str]
    simp
  | c :: p, i, k, acc, hd, hl, ha, hk => by
    obtain ⟨k, rfl⟩ : ∃ j, k = j + 1 := ⟨k - 1, by omega⟩
    simp only [List.length_cons] at hl hk
    have e : wrap64 ((i : Int) + 1) = ((i + 1 : Nat) : Int) := by rw [w64s] <;> omega
    have hal : (asI acc).length = acc.length := by unfold asI; rw [List.length_map]
    have hx : asI acc ++ [((c.toNat : Int) + 32) % 256] = asI (acc ++ [c + 32]) := by unfold asI; rw [List.map_append, add_u8]; rfl
    rw [stencilref13_lower.l0, if_pos (by rw [B_size]; omega), if_pos (by omega), if_pos (by rw [hal]; omega), bt_drop hd, e, hx, lower_l0 l hz p (i + 1) k (acc ++ [c + 32]) (drop_next hd) (by omega) (by rw [List.length_append, ha]; rfl) (by omega)]
    simp
theorem upper_ref (l : List UInt8) (hz : l.length ≤ 1000000) (k : Nat) (hk : l.length + 1 ≤ k) : stencilref13_upper.f k (B l) = some (B (l.map (· - 32))) := by
  have := upper_l0 l hz l 0 k [] rfl (by omega) rfl hk
  exact this
theorem lower_ref (l : List UInt8) (hz : l.length ≤ 1000000) (k : Nat) (hk : l.length + 1 ≤ k) : stencilref13_lower.f k (B l) = some (B (l.map (· + 32))) := by
  have := lower_l0 l hz l 0 k [] rfl (by omega) rfl hk
  exact this
theorem ten_b : (List.range 10).all (fun d => decide (strOfNums [(wrap64 (48 + ((d : Nat) : Int))) % 256] = B [UInt8.ofNat (48 + d)])) = true := by kernel_rfl
theorem ten_e {d : Nat} (h : d < 10) : strOfNums [(wrap64 (48 + (d : Int))) % 256] = B [UInt8.ofNat (48 + d)] := of_decide_eq_true (List.all_eq_true.1 ten_b d (List.mem_range.2 h))
theorem digits_ref : ∀ (f n k : Nat), n < 10 ^ (f + 1) → n < 9223372036854775807 → f + 1 ≤ k → f ≤ 1000 → stencilref13_digits.f k (n : Int) = some (B (decDigits n)) ∧ (decDigits n).length ≤ f + 1
  | 0, n, k, hn, _, hk, _ => by
    obtain ⟨k, rfl⟩ : ∃ j, k = j + 1 := ⟨k - 1, by omega⟩
    have h10 : n < 10 := by simpa using hn
    rw [stencilref13_digits.f, if_pos (by omega), ten_e h10, decDigits, dif_pos h10]
    exact ⟨rfl, by simp⟩
  | f + 1, n, k, hn, hb, hk, hf => by
    have hd : n / 10 < 10 ^ (f + 1) := by
      rw [Nat.pow_succ] at hn
      generalize 10 ^ (f + 1) = q at *
      omega
    clear hn
    obtain ⟨k, rfl⟩ : ∃ j, k = j + 1 := ⟨k - 1, by clear hd; omega⟩
    by_cases h10 : n < 10
    · rw [stencilref13_digits.f, if_pos (by clear hd; omega), ten_e h10, decDigits, dif_pos h10]
      exact ⟨rfl, by simp⟩
    · obtain ⟨i1, i2⟩ := digits_ref f (n / 10) k hd (by clear hd; omega) (by clear hd; omega) (by clear hd; omega)
      clear hd
      have e1 : wrap64 (Int.tdiv (n : Int) 10) = ((n / 10 : Nat) : Int) := by rw [Int.tdiv_eq_ediv_of_nonneg (Int.natCast_nonneg _), w64] <;> omega
      have e2 : Int.tmod (n : Int) 10 = ((n % 10 : Nat) : Int) := by rw [Int.tmod_eq_emod_of_nonneg (Int.natCast_nonneg _)]; rfl
      rw [stencilref13_digits.f, if_neg (by omega), e1, i1, obind, e2, obind, ten_e (Nat.mod_lt _ (by decide)), B_size, B_size, if_pos (by simp only [List.length_cons, List.length_nil]; omega), B_append]
      have e3 : decDigits n = decDigits (n / 10) ++ [UInt8.ofNat (48 + n % 10)] := by rw [decDigits, dif_neg h10]
      rw [e3]
      exact ⟨rfl, by rw [List.length_append]; simp only [List.length_cons, List.length_nil]; omega⟩
end Go.Proofs.YthedigbdkjcpfaaDoor.SortL
