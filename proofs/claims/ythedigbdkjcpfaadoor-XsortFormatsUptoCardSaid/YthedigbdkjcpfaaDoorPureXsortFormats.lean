/- XsortFormats, without Go and memory. -/
import Derived.Test.YthedigbdkjcpfaaDoorPrintf8
import Derived.Test.YthedigbdkjcpfaaDoorPrintf10
import Derived.Test.YthedigbdkjcpfaaDoorPrintxsortformat
import Derived.Test.YthedigbdkjcpfaaDoorPrintf21
import Derived.Test.YthedigbdkjcpfaaDoorPrintxsortguess
import Derived.Test.YthedigbdkjcpfaaDoorPrintf20
import Derived.Test.YthedigbdkjcpfaaDoorPrintf22
import Derived.Test.YthedigbdkjcpfaaDoorSortV
import Derived.Test.YthedigbdkjcpfaaDoorPureXsortBack
set_option linter.unusedSimpArgs false
set_option linter.unusedVariables false
namespace Go.Proofs.YthedigbdkjcpfaaDoor.Pure
open Go.RowKit Go.Proofs.YthedigbdkjcpfaaDoorW.PrintWords Go.Proofs.YthedigbdkjcpfaaDoor.Plain Go.Proofs.YthedigbdkjcpfaaDoor.Print Go.Proofs.YthedigbdkjcpfaaDoor.SortL Go.Proofs.YthedigbdkjcpfaaDoor.NumD
open Go.Lib (decDigits)
/-- some number's text is this one -/
def Says (F l : List UInt8) (n : Nat) : Prop := 1 ≤ n ∧ n ≤ 1000000000 ∧ txt F n = l
theorem B_inj {a b : List UInt8} (h : B a = B b) : a = b := by
  have := congrArg (fun x : ByteArray => x.data.toList) h
  exact this
theorem says_guess (F l : List UInt8) (hz : F.length ≤ 200) (hv : validF F = true) (n : Nat) (h : Says F l n) : xsort_guess.f (B l) (B F) = some (n : Int) := by
  obtain ⟨h1, h2, h3⟩ := h
  have hf := form_p F hz hv n h1 (by omega)
  rcases all_fmt F hz with hall | hnone
  · obtain ⟨s, hs, hg⟩ := hall n h1 h2
    rw [hs] at hf
    have := (Prod.mk.inj (Option.some.inj hf)).1
    rw [← h3, ← this]
    exact hg
  · rw [hnone] at hf
    have := (Prod.mk.inj (Option.some.inj hf)).2
    cases this
theorem dres_rng (l : List UInt8) : 0 ≤ dres l ∧ dres l < 2305843009213693952 := by
  unfold dres
  split
  · omega
  · split <;> omega
theorem guessL_rng : ∀ (f : Nat) (l : List UInt8) (n : Int), 0 ≤ n → n ≤ 27000000026 → 0 ≤ guessL f l n ∧ guessL f l n ≤ 27000000026
  | 0, l, n, h0, h1 => ⟨h0, h1⟩
  | f + 1, l, n, h0, h1 => by
    rw [guessL]
    repeat' split
    · exact ⟨h0, h1⟩
    · omega
    · omega
    · omega
    · exact guessL_rng f _ _ (by omega) (by omega)
set_option maxRecDepth 100000 in
theorem guessR_rng : ∀ (f : Nat) (l : List UInt8) (n last : Int), (-9000000000000 + 2000 * (f : Int) ≤ n) → n ≤ 10000 → 0 ≤ last → last ≤ 1000 → -9000000000000 ≤ guessR f l n last ∧ guessR f l n last ≤ 10000
  | 0, l, n, last, h0, h1, _, _ => by show -9000000000000 ≤ n ∧ n ≤ 10000; omega
  | f + 1, l, n, last, h0, h1, h2, h3 => by
    have hv := rval_le (Lib.decodeL l).1
    rw [guessR]
    by_cases hl : l = []
    · rw [if_pos hl]; omega
    · rw [if_neg hl]
      generalize rval (Lib.decodeL l).1 = v at *
      by_cases hc : v > last
      · rw [if_pos hc]
        by_cases hb : n + v - 2 * last > 10000
        · rw [if_pos hb]; omega
        · rw [if_neg hb]; exact guessR_rng f _ _ _ (by omega) (by omega) (by omega) (by omega)
      · rw [if_neg hc]
        by_cases hb : n + v > 10000
        · rw [if_pos hb]; omega
        · rw [if_neg hb]; exact guessR_rng f _ _ _ (by omega) (by omega) (by omega) (by omega)
theorem all_dig {l : List UInt8} (h : Lib.trimS l digs = []) : allDig l = true := by
  refine List.all_eq_true.2 fun c hc => ?_
  cases hd : digs.contains c with
  | false => exact absurd h (trim_keep hc hd)
  | true =>
    have : ∀ x ∈ digs, 48 ≤ x.toNat ∧ x.toNat ≤ 57 := by decide
    exact decide_eq_true (this c (List.contains_iff_mem.1 hd))
theorem enc4 (r : Int) : (Lib.encodeRune r).length ≤ 4 := by
  unfold Lib.encodeRune Lib.encodeRuneZ
  rw [List.length_map]
  repeat' split
  all_goals simp
theorem mapD_le4 (f : Int → Int) : ∀ (n : Nat) (l : List UInt8), l.length ≤ n → (Lib.mapD f l).length ≤ 4 * l.length
  | 0, l, hn => by
    obtain rfl : l = [] := List.eq_nil_of_length_eq_zero (by omega)
    simp [Lib.mapD_nil]
  | n + 1, l, hn => by
    by_cases hne : l = []
    · subst hne
      simp [Lib.mapD_nil]
    · have hw := Lib.decodeL_width l
      have hle := Lib.decodeL_le l hne
      have ih := mapD_le4 f n (l.drop (Lib.decodeL l).2) (by rw [List.length_drop]; omega)
      rw [List.length_drop] at ih
      rw [Lib.mapD_step f l hne, List.length_append]
      have hh : (if 0 ≤ f (Lib.decodeL l).1 then Lib.encodeRune (f (Lib.decodeL l).1) else []).length ≤ 4 := by
        split
        · exact enc4 _
        · simp
      omega
theorem lowerD_len (l : List UInt8) (h : l.length ≤ 1100000) : (Lib.toLowerD l).length ≤ 1000000000 := by
  have := mapD_le4 Lib.toLowerU l.length l (Nat.le_refl _)
  unfold Lib.toLowerD
  omega
theorem guess_total (l F : List UInt8) (hz : l.length ≤ 1048576) : ∃ g : Int, xsort_guess.f (B l) (B F) = some g ∧ -9223372036854775808 ≤ g ∧ g < 2305843009213693952 := by
  have ht : strings_Trim.f (B l) (⟨#[48, 49, 50, 51, 52, 53, 54, 55, 56, 57]⟩ : ByteArray) = some (B (Lib.trimS l digs)) := by
    unfold strings_Trim.f
    rw [if_pos ⟨by rw [B_size]; omega, by decide, by decide⟩]
    rfl
  have hl : strings_ToLower.f (B l) = some (B (Lib.toLowerD l)) := by
    unfold strings_ToLower.f
    rw [if_pos (by rw [B_size]; omega)]
    rfl
  have hll := lowerD_len l (by omega)
  unfold xsort_guess.f
  rw [if_pos (by rw [B_size]; omega), ht, obind]
  by_cases hc : (B (Lib.trimS l digs)).toList = [] ∧ (B F).toList ≠ [97] ∧ (B F).toList ≠ [65]
  · rw [if_pos hc, if_pos (all_dig (by have h := hc.1; rwa [BL] at h))]
    have := dres_rng l
    exact ⟨_, rfl, by show _ ≤ dres l; omega, by show dres l < _; omega⟩
  · rw [if_neg hc, hl, obind, if_pos (by rw [B_size]; omega)]
    by_cases hi : (B F).toList = [105] ∨ (B F).toList = [73]
    · rw [if_pos hi]
      have := guessR_rng (B (Lib.toLowerD l)).size (B (Lib.toLowerD l)).data.toList 0 0 (by rw [B_size]; omega) (by omega) (by omega) (by omega)
      exact ⟨_, rfl, by omega, by omega⟩
    · rw [if_neg hi]
      have := guessL_rng (B (Lib.toLowerD l)).size (B (Lib.toLowerD l)).data.toList 0 (by omega) (by omega)
      exact ⟨_, rfl, by omega, by omega⟩
/-- the program's Read -/
theorem read_p (F l : List UInt8) (hz : F.length ≤ 200) (hl : l.length ≤ 1048576) (k : Nat) (hk : 64 ≤ k) : (∀ n, validF F = true → Says F l n → xsort_Read.f k (B l) (B F) = some ((n : Int), 0)) ∧ (validF F = true → (∀ n, ¬ Says F l n) → xsort_Read.f k (B l) (B F) = some (0, 5)) ∧ (¬ validF F = true → xsort_Read.f k (B l) (B F) = some (0, 18)) := by
  have lift : ∀ n : Nat, 1 ≤ n → n < 2305843009213693952 → validF F = true → xsort_Format.f k (n : Int) (B F) = some (B (txt F n), 0) := fun n h1 h2 hv => liftK (f := fun k => xsort_Format.f k (n : Int) (B F)) (xsort_Format.mono _ _) (form_p F hz hv n h1 h2) hk
  refine ⟨fun n hv hs => ?_, fun hv hno => ?_, fun hv => ?_⟩
  · have h1 : xsort_Format.f k 1 (B F) = some (B (txt F 1), 0) := lift 1 (by omega) (by omega) hv
    have h2 := lift n hs.1 (by have := hs.2.1; omega) hv
    unfold xsort_Read.f
    rw [h1, obind]
    simp only
    rw [if_pos trivial, says_guess F l hz hv n hs, obind, h2, obind]
    simp only
    rw [if_pos trivial, hs.2.2, if_pos rfl, if_neg (by have := hs.2.1; omega)]
  · have h1 : xsort_Format.f k 1 (B F) = some (B (txt F 1), 0) := lift 1 (by omega) (by omega) hv
    obtain ⟨g, hg, g0, g1⟩ := guess_total l F hl
    unfold xsort_Read.f
    rw [h1, obind]
    simp only
    rw [if_pos trivial, hg, obind]
    by_cases hlow : g < 1
    · rw [low_p F hz hv g g0 hlow k (by omega), obind]
      rfl
    · obtain ⟨n, rfl⟩ : ∃ n : Nat, g = (n : Int) := ⟨g.toNat, by omega⟩
      rw [lift n (by omega) (by omega) hv, obind]
      simp only
      rw [if_pos trivial, BL, BL]
      by_cases he : txt F n = l
      · rw [if_pos he, if_pos]
        by_cases hb : (n : Int) > 1000000000
        · exact hb
        · exact absurd ⟨by omega, by omega, he⟩ (hno n)
      · rw [if_neg he]
  · unfold xsort_Read.f
    rw [none_p F hv, obind]
    rfl
theorem says_one (F l : List UInt8) (hz : F.length ≤ 200) (hv : validF F = true) {n m : Nat} (h : Says F l n) (h2 : Says F l m) : n = m := by
  have e1 := says_guess F l hz hv n h
  rw [says_guess F l hz hv m h2] at e1
  have := Option.some.inj e1
  omega
theorem j7_yes (F l : List UInt8) (hz : F.length ≤ 200) (hv : validF F = true) (n : Nat) (h : Says F l n) (k : Nat) (hk : 310 ≤ k) : stencilref13_Read.j7 k (B l) (B F) (n : Int) = some ((n : Int), 0) := by
  obtain ⟨k, rfl⟩ : ∃ i, k = i + 2 := ⟨k - 2, by omega⟩
  obtain ⟨h1, h2, h3⟩ := h
  rw [stencilref13_Read.j7, if_neg (by omega), stencilref13_Read.j8, if_neg (by rw [decide_eq_false (by omega)]; decide), form_r F hz hv n h1 (by omega) k (by omega), obind]
  simp only
  rw [h3, if_pos rfl]
theorem j7_no (F l : List UInt8) (hz : F.length ≤ 200) (hv : validF F = true) (h : ∀ n, ¬ Says F l n) (x : Int) (k : Nat) (hk : 310 ≤ k) : stencilref13_Read.j7 k (B l) (B F) x = some (0, 5) := by
  obtain ⟨k, rfl⟩ : ∃ i, k = i + 2 := ⟨k - 2, by omega⟩
  rw [stencilref13_Read.j7]
  by_cases h1 : x < 1
  · rw [if_pos h1, stencilref13_Read.j8, if_pos rfl]
  · rw [if_neg h1, stencilref13_Read.j8]
    by_cases h2 : x > 1000000000
    · rw [if_pos (decide_eq_true h2)]
    · obtain ⟨n, rfl⟩ : ∃ n : Nat, x = (n : Int) := ⟨x.toNat, by omega⟩
      rw [if_neg (by rw [decide_eq_false h2]; decide), form_r F hz hv n (by omega) (by omega) k (by omega), obind]
      simp only
      rw [BL, BL, if_neg]
      intro he
      exact h n ⟨by omega, by omega, he⟩
theorem rom_loop (F l : List UInt8) (hz : F.length ≤ 200) (hv : validF F = true) : ∀ (m i : Nat) (x : Int) (k : Nat), i + m = 4000 → 1 ≤ i → m + 320 ≤ k →
    (∀ n, Says F l n → n ≤ 3999 → (n < i → x = (n : Int)) → stencilref13_Read.l0 k (B l) (B F) x (i : Int) = some ((n : Int), 0)) ∧ ((∀ n, ¬ Says F l n) → stencilref13_Read.l0 k (B l) (B F) x (i : Int) = some (0, 5))
  | 0, i, x, k, hi, h1, hk => by
    obtain ⟨k, rfl⟩ : ∃ j, k = j + 1 := ⟨k - 1, by omega⟩
    rw [stencilref13_Read.l0, if_neg (by omega)]
    exact ⟨fun n hs hn hx => by rw [hx (by omega)]; exact j7_yes F l hz hv n hs k (by omega), fun hno => j7_no F l hz hv hno x k (by omega)⟩
  | m + 1, i, x, k, hi, h1, hk => by
    obtain ⟨k, rfl⟩ : ∃ j, k = j + 1 := ⟨k - 1, by omega⟩
    have e : wrap64 ((i : Int) + 1) = ((i + 1 : Nat) : Int) := by rw [w64s] <;> omega
    rw [stencilref13_Read.l0, if_pos (by omega), form_r F hz hv i h1 (by omega) k (by omega), obind, e]
    simp only
    rw [BL, BL]
    by_cases he : txt F i = l
    · rw [if_pos he]
      have hsi : Says F l i := ⟨h1, by omega, he⟩
      obtain ⟨a, b⟩ := rom_loop F l hz hv m (i + 1) (i : Int) k (by omega) (by omega) (by omega)
      exact ⟨fun n hs hn hx => a n hs hn (fun _ => by rw [says_one F l hz hv hsi hs]), fun hno => absurd hsi (hno i)⟩
    · rw [if_neg he]
      obtain ⟨a, b⟩ := rom_loop F l hz hv m (i + 1) x k (by omega) (by omega) (by omega)
      refine ⟨fun n hs hn hx => a n hs hn (fun hlt => hx ?_), b⟩
      have : n ≠ i := fun h => he (by rw [← h]; exact hs.2.2)
      omega
theorem dig_no (F l : List UInt8) (hz : F.length ≤ 200) (hv : validF F = true) (hl : l.length ≤ 1048576) (hno : ∀ n, ¬ Says F l n) : ∀ (p : List UInt8) (i k : Nat) (x : Int), l.drop i = p → i + p.length = l.length → 0 ≤ x → x ≤ 20000000000 → 2 * p.length + 320 ≤ k → stencilref13_Read.l2 k (B l) (B F) x (i : Int) = some (0, 5)
  | [], i, k, x, hd, hp, h0, h1, hk => by
    obtain ⟨k, rfl⟩ : ∃ j, k = j + 2 := ⟨k - 2, by omega⟩
    simp only [List.length_nil] at hp
    rw [stencilref13_Read.l2, if_neg (by rw [B_size]; omega), stencilref13_Read.j6, if_neg (by decide)]
    exact j7_no F l hz hv hno x k (by omega)
  | c :: p, i, k, x, hd, hp, h0, h1, hk => by
    obtain ⟨k, rfl⟩ : ∃ j, k = j + 2 := ⟨k - 2, by omega⟩
    simp only [List.length_cons] at hp hk
    have e : wrap64 ((i : Int) + 1) = ((i + 1 : Nat) : Int) := by rw [w64s] <;> omega
    have hc := c.toNat_lt
    rw [stencilref13_Read.l2, if_pos (by rw [B_size]; omega), stencilref13_Read.j6]
    by_cases hx : x ≤ 1000000000
    · rw [if_pos (decide_eq_true hx), if_pos (by omega), if_pos (by rw [B_size]; omega), bt_drop hd, e]
      by_cases q1 : (c.toNat : Int) < 48
      · rw [if_pos q1]
      · rw [if_neg q1]
        by_cases q2 : (c.toNat : Int) > 57
        · rw [if_pos q2]
        · rw [if_neg q2, w64s (x := x * 10) (by omega) (by omega), show ((c.toNat : Int) - 48) % 256 = (c.toNat : Int) - 48 by omega, w64s (by omega) (by omega)]
          exact dig_no F l hz hv hl hno p (i + 1) k _ (drop_next hd) (by omega) (by omega) (by omega) (by omega)
    · rw [if_neg (by rw [decide_eq_false hx]; decide)]
      exact j7_no F l hz hv hno x k (by omega)
theorem dig_yes (F l : List UInt8) (hz : F.length ≤ 200) (hv : validF F = true) (hl : l.length ≤ 1048576) (n : Nat) (hs : Says F l n) (hd : ∀ c ∈ l, isD c) : ∀ (p : List UInt8) (i k a : Nat), l.drop i = p → i + p.length = l.length → digN a p = n → 2 * p.length + 320 ≤ k → stencilref13_Read.l2 k (B l) (B F) (a : Int) (i : Int) = some ((n : Int), 0)
  | [], i, k, a, hdp, hp, ha, hk => by
    obtain ⟨k, rfl⟩ : ∃ j, k = j + 2 := ⟨k - 2, by omega⟩
    simp only [List.length_nil] at hp
    have ha2 : a = n := ha
    rw [stencilref13_Read.l2, if_neg (by rw [B_size]; omega), stencilref13_Read.j6, if_neg (by decide), ha2]
    exact j7_yes F l hz hv n hs k (by omega)
  | c :: p, i, k, a, hdp, hp, ha, hk => by
    obtain ⟨k, rfl⟩ : ∃ j, k = j + 2 := ⟨k - 2, by omega⟩
    simp only [List.length_cons] at hp hk
    have e : wrap64 ((i : Int) + 1) = ((i + 1 : Nat) : Int) := by rw [w64s] <;> omega
    have hc : isD c := hd c (by
      have : c ∈ l.drop i := by rw [hdp]; exact List.mem_cons_self
      exact List.mem_of_mem_drop this)
    unfold isD at hc
    rw [digN_cons] at ha
    have hge := digN_ge p (a * 10 + (c.toNat - 48))
    have hb := hs.2.1
    have ev : ((a : Int) * 10) + ((c.toNat : Int) - 48) = ((a * 10 + (c.toNat - 48) : Nat) : Int) := by omega
    rw [stencilref13_Read.l2, if_pos (by rw [B_size]; omega), stencilref13_Read.j6, if_pos (decide_eq_true (by omega)), if_pos (by omega), if_pos (by rw [B_size]; omega), bt_drop hdp, e, if_neg (by omega), if_neg (by omega),
      w64s (x := (a : Int) * 10) (by omega) (by omega), show ((c.toNat : Int) - 48) % 256 = (c.toNat : Int) - 48 by omega, ev, w64s (by omega) (by omega)]
    exact dig_yes F l hz hv hl n hs hd p (i + 1) k _ (drop_next hdp) (by omega) ha (by omega)
/-- a letter's number: in small ones, in great ones -/
def lnum (F : List UInt8) (c : UInt8) : Int := if F = [65] then (c.toNat : Int) - 97 + 1 + 32 else (c.toNat : Int) - 97 + 1
theorem l1_step (F l : List UInt8) (hl : l.length ≤ 1048576) (c : UInt8) (p : List UInt8) (i k : Nat) (x : Int) (hd : l.drop i = c :: p) (hp : i + p.length + 1 = l.length) (hx : x ≤ 1000000000) :
    stencilref13_Read.l1 (k + 2) (B l) (B F) x (i : Int) = if lnum F c < 1 then some (0, 5) else if lnum F c > 26 then some (0, 5) else stencilref13_Read.l1 k (B l) (B F) (wrap64 (wrap64 (x * 26) + lnum F c)) ((i + 1 : Nat) : Int) := by
  have e : wrap64 ((i : Int) + 1) = ((i + 1 : Nat) : Int) := by rw [w64s] <;> omega
  have hc := c.toNat_lt
  rw [stencilref13_Read.l1, if_pos (by rw [B_size]; omega), stencilref13_Read.j4, if_pos (decide_eq_true hx), if_pos (by omega), if_pos (by rw [B_size]; omega), bt_drop hd, e, BL,
    w64s (x := (c.toNat : Int)) (by omega) (by omega), w64s (x := (c.toNat : Int) - 97) (by omega) (by omega), w64s (x := (c.toNat : Int) - 97 + 1) (by omega) (by omega), w64s (x := (c.toNat : Int) - 97 + 1 + 32) (by omega) (by omega)]
  unfold lnum
  by_cases h : F = [65]
  · rw [if_pos h, if_pos h]
  · rw [if_neg h, if_neg h]
theorem let_no (F l : List UInt8) (hz : F.length ≤ 200) (hv : validF F = true) (hl : l.length ≤ 1048576) (hno : ∀ n, ¬ Says F l n) : ∀ (p : List UInt8) (i k : Nat) (x : Int), l.drop i = p → i + p.length = l.length → 0 ≤ x → x ≤ 27000000026 → 2 * p.length + 320 ≤ k → stencilref13_Read.l1 k (B l) (B F) x (i : Int) = some (0, 5)
  | [], i, k, x, hd, hp, h0, h1, hk => by
    obtain ⟨k, rfl⟩ : ∃ j, k = j + 2 := ⟨k - 2, by omega⟩
    simp only [List.length_nil] at hp
    rw [stencilref13_Read.l1, if_neg (by rw [B_size]; omega), stencilref13_Read.j4, if_neg (by decide)]
    exact j7_no F l hz hv hno x k (by omega)
  | c :: p, i, k, x, hd, hp, h0, h1, hk => by
    obtain ⟨k, rfl⟩ : ∃ j, k = j + 2 := ⟨k - 2, by omega⟩
    simp only [List.length_cons] at hp hk
    by_cases hx : x ≤ 1000000000
    · rw [l1_step F l hl c p i k x hd (by omega) hx]
      by_cases q1 : lnum F c < 1
      · rw [if_pos q1]
      · rw [if_neg q1]
        by_cases q2 : lnum F c > 26
        · rw [if_pos q2]
        · rw [if_neg q2, w64s (x := x * 26) (by omega) (by omega), w64s (by omega) (by omega)]
          exact let_no F l hz hv hl hno p (i + 1) k _ (drop_next hd) (by omega) (by omega) (by omega) (by omega)
    · rw [stencilref13_Read.l1, if_pos (by rw [B_size]; omega), stencilref13_Read.j4, if_neg (by rw [decide_eq_false hx]; decide)]
      exact j7_no F l hz hv hno x k (by omega)
/-- the letters of a number, small or great -/
def lets (F : List UInt8) (m : Nat → List UInt8) (n : Nat) : List UInt8 := if F = [65] then Lib.toUpperA (m n) else m n
theorem lnum_d : (List.range 26).all (fun d => decide (lnum [97] (UInt8.ofNat (97 + d)) = (d : Int) + 1) && decide (lnum [65] (Lib.upperB (UInt8.ofNat (97 + d))) = (d : Int) + 1)) = true := by kernel_rfl
theorem let_run (F l : List UInt8) (hF : F = [97] ∨ F = [65]) (hl : l.length ≤ 1048576) : ∀ (f m : Nat) (t : List UInt8) (k : Nat), l = lets F (lettersF f) m ++ t → m < 26 ^ f → m ≤ 1000000000 →
    stencilref13_Read.l1 (k + 2 * (lets F (lettersF f) m).length) (B l) (B F) 0 (0 : Nat) = stencilref13_Read.l1 k (B l) (B F) (m : Int) ((lets F (lettersF f) m).length : Nat)
  | 0, m, t, k, _, hm, _ => by
    have : m = 0 := by simpa using hm
    subst this
    have : lets F (lettersF 0) 0 = [] := by unfold lets; rcases hF with h | h <;> rw [h] <;> rfl
    rw [this]
    rfl
  | f + 1, 0, t, k, _, _, _ => by
    have : lets F (lettersF (f + 1)) 0 = [] := by unfold lets; rcases hF with h | h <;> rw [h] <;> rfl
    rw [this]
    rfl
  | f + 1, m + 1, t, k, he, hm, hb => by
    have hd : m / 26 < 26 ^ f := SortL.div_lt hm
    clear hm
    have hm26 : m % 26 < 26 := Nat.mod_lt _ (by decide)
    obtain ⟨c, hc1, hc2⟩ : ∃ c, lets F (lettersF (f + 1)) (m + 1) = lets F (lettersF f) (m / 26) ++ [c] ∧ lnum F c = ((m % 26 : Nat) : Int) + 1 := by
      have hall := List.all_eq_true.1 lnum_d (m % 26) (List.mem_range.2 hm26)
      simp only [Bool.and_eq_true, decide_eq_true_eq] at hall
      rcases hF with h | h
      · refine ⟨UInt8.ofNat (97 + m % 26), ?_, by rw [h]; exact hall.1⟩
        unfold lets
        rw [h, if_neg (by decide), if_neg (by decide), lettersF]
      · refine ⟨Lib.upperB (UInt8.ofNat (97 + m % 26)), ?_, by rw [h]; exact hall.2⟩
        unfold lets
        rw [h, if_pos rfl, if_pos rfl, lettersF]
        unfold Lib.toUpperA
        rw [List.map_append]
        rfl
    have ih := let_run F l hF hl f (m / 26) (c :: t) (k + 2) (by rw [he, hc1, List.append_assoc]; rfl) hd (by clear hd; omega)
    clear hd
    have hlen : (lets F (lettersF (f + 1)) (m + 1)).length = (lets F (lettersF f) (m / 26)).length + 1 := by rw [hc1, List.length_append]; rfl
    have hdrop : l.drop (lets F (lettersF f) (m / 26)).length = c :: t := by rw [he, hc1, List.append_assoc, List.drop_left]; rfl
    have hll : (lets F (lettersF f) (m / 26)).length + t.length + 1 = l.length := by
      have := congrArg List.length hdrop
      rw [List.length_drop, List.length_cons] at this
      omega
    rw [hlen, show k + 2 * ((lets F (lettersF f) (m / 26)).length + 1) = k + 2 + 2 * (lets F (lettersF f) (m / 26)).length by omega, ih, l1_step F l hl c t _ k _ hdrop hll (by omega), hc2, if_neg (by omega), if_neg (by omega), w64s (x := ((m / 26 : Nat) : Int) * 26) (by omega) (by omega), w64s (by omega) (by omega)]
    congr 1
    omega
theorem let_yes (F l : List UInt8) (hz : F.length ≤ 200) (hF : F = [97] ∨ F = [65]) (hl : l.length ≤ 1048576) (n : Nat) (hs : Says F l n) (k : Nat) (hk : 2 * l.length + 320 ≤ k) : stencilref13_Read.l1 k (B l) (B F) 0 (0 : Nat) = some ((n : Int), 0) := by
  have hv : validF F = true := by unfold validF; rcases hF with h | h <;> rw [h] <;> decide
  have he : l = lets F (lettersF 14) n ++ [] := by
    rw [List.append_nil, ← hs.2.2]
    unfold txt lets
    rcases hF with h | h
    · rw [h, if_pos rfl, if_neg (by decide)]
    · rw [h, if_neg (by decide), if_pos rfl, if_pos rfl]
  have hlen : (lets F (lettersF 14) n).length = l.length := by rw [he, List.append_nil]
  have hr := let_run F l hF hl 14 n [] (k - 2 * (lets F (lettersF 14) n).length) he (l14 (by have := hs.2.1; omega)) hs.2.1
  rw [show k - 2 * (lets F (lettersF 14) n).length + 2 * (lets F (lettersF 14) n).length = k by omega, hlen] at hr
  rw [hr]
  obtain ⟨k2, hk2⟩ : ∃ j, k - 2 * l.length = j + 2 := ⟨k - 2 * l.length - 2, by omega⟩
  rw [hk2, stencilref13_Read.l1, if_neg (by rw [B_size]; omega), stencilref13_Read.j4, if_neg (by decide)]
  exact j7_yes F l hz hv n hs k2 (by omega)
/-- a number's text is not empty; in digits it is all digits -/
theorem txt_ne (F : List UInt8) (n : Nat) (h1 : 1 ≤ n) : txt F n ≠ [] := by
  obtain ⟨c, t, hc⟩ := dec_ne n
  obtain ⟨x, hx⟩ := letters_last 13 n h1
  unfold txt
  repeat' split
  · rw [hx]; simp
  · rw [hx]; unfold Lib.toUpperA; simp
  · obtain ⟨_, _, _, r4⟩ := rom_b n h1 (by assumption)
    unfold Lib.toLowerA
    simpa using r4
  · rw [hc]; simp
  · exact (rom_b n h1 (by assumption)).2.2.2
  · rw [hc]; simp
  · rw [hc]; simp
theorem txt_dig (F : List UInt8) (n : Nat) (h97 : F ≠ [97]) (h65 : F ≠ [65]) (hb : (F = [105] ∨ F = [73]) → n > 3999) : (∀ c ∈ txt F n, isD c) ∧ digN 0 (txt F n) = n := by
  have hd : ∀ c ∈ decDigits n, isD c := dec_d n
  unfold txt
  rw [if_neg h97, if_neg h65]
  by_cases h105 : F = [105]
  · rw [if_pos h105, if_neg (by have := hb (.inl h105); omega)]
    exact ⟨hd, dig_val n⟩
  · rw [if_neg h105]
    by_cases h73 : F = [73]
    · rw [if_pos h73, if_neg (by have := hb (.inr h73); omega)]
      exact ⟨hd, dig_val n⟩
    · rw [if_neg h73]
      refine ⟨fun c hc => ?_, by rw [dig_app, dig_zero, dig_val]⟩
      rcases List.mem_append.1 hc with h | h
      · rw [(List.mem_replicate.1 h).2]
        unfold isD
        decide
      · exact hd c h
/-- the first sign of a Roman number is no digit -/
theorem rom_first (F : List UInt8) (hF : F = [105] ∨ F = [73]) (n : Nat) (h1 : 1 ≤ n) (h2 : n ≤ 3999) (c : UInt8) (t : List UInt8) (h : txt F n = c :: t) : ¬ isD c := by
  obtain ⟨_, r2, _, _⟩ := rom_b n h1 h2
  have key : signs7.all (fun c => decide (c.toNat > 57) && decide ((Lib.lowerB c).toNat > 57)) = true := by kernel_rfl
  have hk : ∀ d, signs7.contains d = true → d.toNat > 57 ∧ (Lib.lowerB d).toNat > 57 := fun d hd => by
    have := List.all_eq_true.1 key d (List.contains_iff_mem.1 hd)
    simpa using this
  have hc : c.toNat > 57 := by
    unfold txt at h
    rcases hF with hf | hf
    · rw [hf, if_neg (by decide), if_neg (by decide), if_pos rfl, if_pos h2] at h
      have : c ∈ Lib.toLowerA (romB n) := by rw [h]; exact List.mem_cons_self
      unfold Lib.toLowerA at this
      obtain ⟨d, hd, rfl⟩ := List.mem_map.1 this
      exact (hk d (r2 d hd)).2
    · rw [hf, if_neg (by decide), if_neg (by decide), if_neg (by decide), if_pos rfl, if_pos h2] at h
      have : c ∈ romB n := by rw [h]; exact List.mem_cons_self
      exact (hk c (r2 c this)).1
  unfold isD
  omega
/-- the document's Read -/
theorem read_r (F l : List UInt8) (hz : F.length ≤ 200) (hl : l.length ≤ 1048576) (k : Nat) (hk : 2 * l.length + 5000 ≤ k) : (∀ n, validF F = true → Says F l n → stencilref13_Read.f k (B l) (B F) = some ((n : Int), 0)) ∧ (validF F = true → (∀ n, ¬ Says F l n) → stencilref13_Read.f k (B l) (B F) = some (0, 5)) ∧ (¬ validF F = true → stencilref13_Read.f k (B l) (B F) = some (0, 18)) := by
  have h1 : validF F = true → stencilref13_Format.f k 1 (B F) = some (B (txt F 1), 0) := fun hv => form_r F hz hv 1 (by omega) (by omega) k (by omega)
  -- behind the tests: the three loops
  have loops : ∀ (x53 : Bool), validF F = true → (x53 = true → F = [105] ∨ F = [73]) → (x53 = true → ∃ c t, l = c :: t ∧ ¬ isD c) → ((F = [105] ∨ F = [73]) → x53 = false → l = [] ∨ ∃ c t, l = c :: t ∧ isD c) →
      (∀ n, Says F l n → stencilref13_Read.j0 k (B l) (B F) 0 x53 = some ((n : Int), 0)) ∧ ((∀ n, ¬ Says F l n) → stencilref13_Read.j0 k (B l) (B F) 0 x53 = some (0, 5)) := by
    intro x53 hv hx1 hx2 hx3
    obtain ⟨k, rfl⟩ : ∃ j, k = j + 2 := ⟨k - 2, by omega⟩
    rw [stencilref13_Read.j0]
    cases x53
    · rw [if_neg (by decide), BL]
      have hlet : ∀ (hF : F = [97] ∨ F = [65]), (∀ n, Says F l n → stencilref13_Read.j2 (k + 1) (B l) (B F) 0 true = some ((n : Int), 0)) ∧ ((∀ n, ¬ Says F l n) → stencilref13_Read.j2 (k + 1) (B l) (B F) 0 true = some (0, 5)) := by
        intro hF
        rw [stencilref13_Read.j2, if_pos rfl]
        exact ⟨fun n hs => let_yes F l hz hF hl n hs k (by omega), fun hno => let_no F l hz hv hl hno l 0 k 0 rfl (by omega) (by omega) (by omega) (by omega)⟩
      by_cases h97 : F = [97]
      · rw [if_pos h97]
        exact hlet (.inl h97)
      · rw [if_neg h97]
        by_cases h65 : F = [65]
        · have e : (F == [65]) = true := by rw [h65]; rfl
          rw [e]
          exact hlet (.inr h65)
        · have e : (F == [65]) = false := beq_eq_false_iff_ne.2 h65
          rw [e, stencilref13_Read.j2, if_neg (by decide)]
          refine ⟨fun n hs => ?_, fun hno => dig_no F l hz hv hl hno l 0 k 0 rfl (by omega) (by omega) (by omega) (by omega)⟩
          have hbig : (F = [105] ∨ F = [73]) → n > 3999 := by
            intro hF
            refine Decidable.byContradiction fun hle => ?_
            rcases hx3 hF rfl with h0 | ⟨c, t, hc, hcd⟩
            · exact txt_ne F n hs.1 (by rw [hs.2.2]; exact h0)
            · exact rom_first F hF n hs.1 (by omega) c t (by rw [hs.2.2]; exact hc) hcd
          obtain ⟨d1, d2⟩ := txt_dig F n h97 h65 hbig
          rw [hs.2.2] at d1 d2
          exact dig_yes F l hz hv hl n hs d1 l 0 k 0 rfl (by omega) d2 (by omega)
    · rw [if_pos rfl]
      obtain ⟨a, b⟩ := rom_loop F l hz hv 3999 1 0 (k + 1) (by omega) (by omega) (by omega)
      refine ⟨fun n hs => a n hs ?_ (fun h => absurd hs.1 (by omega)), b⟩
      refine Decidable.byContradiction fun hgt => ?_
      obtain ⟨c, t, hc, hcd⟩ := hx2 rfl
      have hF := hx1 rfl
      have hne : F ≠ [97] ∧ F ≠ [65] := by rcases hF with h | h <;> rw [h] <;> decide
      obtain ⟨d1, _⟩ := txt_dig F n hne.1 hne.2 (fun _ => by omega)
      rw [hs.2.2, hc] at d1
      exact hcd (d1 c List.mem_cons_self)
  have start : validF F = true → ∃ x53 : Bool, stencilref13_Read.f k (B l) (B F) = stencilref13_Read.j0 k (B l) (B F) 0 x53 ∧ (x53 = true → F = [105] ∨ F = [73]) ∧ (x53 = true → ∃ c t, l = c :: t ∧ ¬ isD c) ∧ ((F = [105] ∨ F = [73]) → x53 = false → l = [] ∨ ∃ c t, l = c :: t ∧ isD c) := by
    intro hv
    unfold stencilref13_Read.f
    rw [h1 hv, obind]
    simp only
    rw [if_pos trivial, BL, BL]
    have hfirst : ∀ (hF : F = [105] ∨ F = [73]), ∃ x53 : Bool, (if l = ([] : List UInt8) then (stencilref13_Read.j0 k (B l) (B F) 0 false) else (if 0 < ((B l).size : Int) then (if (bt (B l) 0) < 48 then (stencilref13_Read.j0 k (B l) (B F) 0 true) else (stencilref13_Read.j0 k (B l) (B F) 0 (decide ((bt (B l) 0) > 57)))) else (none))) = stencilref13_Read.j0 k (B l) (B F) 0 x53 ∧ (x53 = true → F = [105] ∨ F = [73]) ∧ (x53 = true → ∃ c t, l = c :: t ∧ ¬ isD c) ∧ ((F = [105] ∨ F = [73]) → x53 = false → l = [] ∨ ∃ c t, l = c :: t ∧ isD c) := by
      intro hF
      by_cases h0 : l = []
      · exact ⟨false, by rw [if_pos h0], fun h => (by cases h), fun h => (by cases h), fun _ _ => .inl h0⟩
      · obtain ⟨c, t, hc⟩ : ∃ c t, l = c :: t := by cases l with | nil => exact absurd rfl h0 | cons c t => exact ⟨c, t, rfl⟩
        have hb : bt (B l) 0 = (c.toNat : Int) := bt_drop (i := 0) (p := t) (by rw [List.drop_zero]; exact hc)
        have hlen : l.length = t.length + 1 := by rw [hc]; rfl
        rw [if_neg h0, if_pos (by rw [B_size]; omega), hb]
        by_cases q1 : (c.toNat : Int) < 48
        · exact ⟨true, by rw [if_pos q1], fun _ => hF, fun _ => ⟨c, t, hc, by unfold isD; omega⟩, fun _ h => by cases h⟩
        · rw [if_neg q1]
          by_cases q2 : (c.toNat : Int) > 57
          · exact ⟨true, by rw [decide_eq_true q2], fun _ => hF, fun _ => ⟨c, t, hc, by unfold isD; omega⟩, fun _ h => by cases h⟩
          · exact ⟨false, by rw [decide_eq_false q2], fun h => (by cases h), fun h => (by cases h), fun _ _ => .inr ⟨c, t, hc, by unfold isD; omega⟩⟩
    by_cases h105 : F = [105]
    · rw [if_pos h105]
      exact hfirst (.inl h105)
    · rw [if_neg h105]
      by_cases h73 : F = [73]
      · rw [if_pos h73]
        exact hfirst (.inr h73)
      · rw [if_neg h73]
        exact ⟨false, rfl, fun h => (by cases h), fun h => (by cases h), fun hF => by rcases hF with h | h; exact absurd h h105; exact absurd h h73⟩
  refine ⟨fun n hv hs => ?_, fun hv hno => ?_, fun hv => ?_⟩
  · obtain ⟨x, e, a, b, c⟩ := start hv
    rw [e]
    exact (loops x hv a b c).1 n hs
  · obtain ⟨x, e, a, b, c⟩ := start hv
    rw [e]
    exact (loops x hv a b c).2 hno
  · unfold stencilref13_Read.f
    rw [none_r F hz hv 1 k (by omega), obind]
    rfl
theorem formats (F l : List UInt8) (hz : F.length ≤ 200) (hl : l.length ≤ 1048576) (x : Int) (h0 : -9223372036854775808 ≤ x) (h1 : x ≤ 1099511627776) (k : Nat) (hk : 2 * l.length + 5000 ≤ k) : stencillaw13_XsortFormats.j0 (k + 1) x (B F) (B l) = some true := by
  have lv : stencillaw13_live.f k = some true := liftK (f := fun k => stencillaw13_live.f k) stencillaw13_live.mono live_b (by omega)
  have hform : ∃ s e, xsort_Format.f k x (B F) = some (s, e) ∧ stencilref13_Format.f k x (B F) = some (s, e) := by
    by_cases hv : validF F = true
    · by_cases hx : x < 1
      · exact ⟨_, _, low_p F hz hv x h0 hx k (by omega), low_r F hz hv x hx k (by omega)⟩
      · obtain ⟨n, rfl⟩ : ∃ n : Nat, x = (n : Int) := ⟨x.toNat, by omega⟩
        exact ⟨_, _, liftK (f := fun k => xsort_Format.f k (n : Int) (B F)) (xsort_Format.mono _ _) (form_p F hz hv n (by omega) (by omega)) (by omega), form_r F hz hv n (by omega) (by omega) k (by omega)⟩
    · exact ⟨_, _, none_p F hv x k, none_r F hz hv x k (by omega)⟩
  have hread : ∃ m e, xsort_Read.f k (B l) (B F) = some (m, e) ∧ stencilref13_Read.f k (B l) (B F) = some (m, e) := by
    obtain ⟨p1, p2, p3⟩ := read_p F l hz hl k (by omega)
    obtain ⟨r1, r2, r3⟩ := read_r F l hz hl k hk
    by_cases hv : validF F = true
    · by_cases hs : ∃ n, Says F l n
      · obtain ⟨n, hn⟩ := hs
        exact ⟨_, _, p1 n hv hn, r1 n hv hn⟩
      · have hno : ∀ n, ¬ Says F l n := fun n h => hs ⟨n, h⟩
        exact ⟨_, _, p2 hv hno, r2 hv hno⟩
    · exact ⟨_, _, p3 hv, r3 hv⟩
  obtain ⟨s, e, f1, f2⟩ := hform
  obtain ⟨m, g, g1, g2⟩ := hread
  rw [stencillaw13_XsortFormats.j0, f1, obind, f2, obind, g1, obind, g2, obind, lv, obind]
  simp
theorem XsortFormats (n : Int) (fmt s : ByteArray) (hw : (Lit.int .i64 n).wf = true) (hf : fmt.size ≤ 1048576) (hs : s.size ≤ 1048576) : ∃ k, stencillaw13_XsortFormats.f k n fmt s = some true := by
  have hn : -9223372036854775808 ≤ n ∧ n ≤ 9223372036854775807 := by simpa [Lit.wf, IntKind.min, IntKind.max, IntKind.signed, IntKind.bits] using hw
  have hB : fmt = B fmt.data.toList := bytes_eq rfl
  have hS : s = B s.data.toList := bytes_eq rfl
  have hlen : fmt.data.toList.length = fmt.size := by rw [Array.length_toList]; rfl
  have hlen2 : s.data.toList.length = s.size := by rw [Array.length_toList]; rfl
  refine ⟨2 * s.data.toList.length + 5000 + 1, ?_⟩
  unfold stencillaw13_XsortFormats.f
  by_cases hz : (fmt.size : Int) > 200
  · rw [if_pos hz, liftK (f := fun k => stencillaw13_live.f k) stencillaw13_live.mono live_b (by omega), obind]
  · rw [if_neg hz, hB]
    conv => lhs; rw [hS]
    by_cases hg : n > 1099511627776
    · rw [if_pos hg]
      refine formats _ _ (by omega) (by omega) _ ?_ ?_ _ ?_
      · rw [Int.tmod_eq_emod_of_nonneg (by omega)]; omega
      · rw [Int.tmod_eq_emod_of_nonneg (by omega)]; omega
      · rw [B_list]
        omega
    · rw [if_neg hg]
      exact formats _ _ (by omega) (by omega) _ (by omega) (by omega) _ (by rw [B_list]; omega)
end Go.Proofs.YthedigbdkjcpfaaDoor.Pure
