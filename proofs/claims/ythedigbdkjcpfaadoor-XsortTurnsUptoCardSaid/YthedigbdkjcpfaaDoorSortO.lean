/- The order of rows: what xsort.Order's comparison is, and that it orders. No memory. -/
import Derived.Test.YthedigbdkjcpfaaDoorPrintxsortorder
import Derived.Test.YthedigbdkjcpfaaDoorPrintf10
import Derived.Test.YthedigbdkjcpfaaDoorPrintf87
import Derived.Test.YthedigbdkjcpfaaDoorPrintlibcompare
import Derived.Test.YthedigbdkjcpfaaDoorNumO
set_option linter.unusedVariables false
set_option linter.unusedSimpArgs false
namespace Go.Proofs.YthedigbdkjcpfaaDoor.SortO
open Go.RowKit Go.Proofs.YthedigbdkjcpfaaDoorW.PrintWords Go.Proofs.YthedigbdkjcpfaaDoor.Plain Go.Proofs.YthedigbdkjcpfaaDoor.Print Go.Proofs.YthedigbdkjcpfaaDoor.NumO
theorem ob {α β : Type} (x : α) (f : α → Option β) : (some x).bind f = f x := by rw [Option.bind_some]
/-- a comparison that orders: alike ones may be many -/
structure Good {β : Type} (c : β → β → Int) : Prop where
  refl : ∀ x, c x x = 0
  turn : ∀ x y, c x y < 0 ↔ 0 < c y x
  trans : ∀ x y z, c x y ≤ 0 → c y z ≤ 0 → c x z ≤ 0
theorem Good.zero {β : Type} {c : β → β → Int} (G : Good c) {x y : β} (h : c x y = 0) : c y x = 0 := by
  have h1 := G.turn x y
  have h2 := G.turn y x
  omega
theorem Good.neg {β : Type} {c : β → β → Int} (G : Good c) : Good (fun x y => -c x y) where
  refl x := by have := G.refl x; omega
  turn x y := by have h1 := G.turn x y; have h2 := G.turn y x; omega
  trans x y z h1 h2 := by
    have a1 := G.turn x y
    have a2 := G.turn y x
    have b1 := G.turn y z
    have b2 := G.turn z y
    have c1 := G.turn x z
    have c2 := G.turn z x
    have t := G.trans z y x (by omega) (by omega)
    omega
theorem Good.lex {β : Type} {c d : β → β → Int} (G : Good c) (D : Good d) : Good (fun x y => if c x y ≠ 0 then c x y else d x y) where
  refl x := by
    have h := G.refl x
    rw [if_neg (by omega)]
    exact D.refl x
  turn x y := by
    have h1 := G.turn x y
    have h2 := G.turn y x
    by_cases e : c x y = 0
    · have e2 := G.zero e
      rw [if_neg (by omega), if_neg (by omega)]
      exact D.turn x y
    · rw [if_pos e, if_pos (by omega)]
      exact h1
  trans x y z h1 h2 := by
    have a1 := G.turn x y
    have a2 := G.turn y x
    have b1 := G.turn y z
    have b2 := G.turn z y
    have c1 := G.turn x z
    have c2 := G.turn z x
    have hxy : c x y ≤ 0 := by
      by_cases e : c x y = 0
      · omega
      · rw [if_pos e] at h1; exact h1
    have hyz : c y z ≤ 0 := by
      by_cases e : c y z = 0
      · omega
      · rw [if_pos e] at h2; exact h2
    have hxz := G.trans x y z hxy hyz
    by_cases e : c x z = 0
    · rw [if_neg (by omega)]
      have t1 := G.trans z x y (by omega) hxy
      have t2 := G.trans y z x hyz (by omega)
      have e1 : c x y = 0 := by omega
      have e2 : c y z = 0 := by omega
      rw [if_neg (by omega)] at h1 h2
      exact D.trans x y z h1 h2
    · rw [if_pos e]; exact hxz
theorem Good.on {β γ : Type} {c : β → β → Int} (G : Good c) (f : γ → β) : Good (fun x y => c (f x) (f y)) :=
  ⟨fun x => G.refl _, fun x y => G.turn _ _, fun x y z => G.trans _ _ _⟩
theorem Good.none {β : Type} : Good (fun _ _ : β => 0) := ⟨fun _ => rfl, fun _ _ => by omega, fun _ _ _ _ _ => by omega⟩
/-- a strict order, told as a comparison -/
theorem Good.of_lt {β : Type} (lt : β → β → Prop) [∀ x y, Decidable (lt x y)] (irr : ∀ x, ¬ lt x x) (asy : ∀ x y, lt x y → ¬ lt y x) (nt : ∀ x y z, ¬ lt y x → ¬ lt z y → ¬ lt z x) :
    Good (fun x y => if lt x y then (-1 : Int) else if lt y x then 1 else 0) where
  refl x := by rw [if_neg (irr x), if_neg (irr x)]
  turn x y := by
    by_cases h : lt x y
    · rw [if_pos h, if_neg (asy x y h), if_pos h]; decide
    · rw [if_neg h]
      by_cases h2 : lt y x
      · rw [if_pos h2, if_pos h2]; omega
      · rw [if_neg h2, if_neg h2, if_neg h]
  trans x y z h1 h2 := by
    have e1 : ¬ lt y x := fun h => by rw [if_neg (asy y x h), if_pos h] at h1; omega
    have e2 : ¬ lt z y := fun h => by rw [if_neg (asy z y h), if_pos h] at h2; omega
    have e3 := nt x y z e1 e2
    by_cases h : lt x z
    · rw [if_pos h]; omega
    · rw [if_neg h, if_neg e3]; omega
/-! texts -/
theorem bl_irr : ∀ l : List UInt8, Op.bytesLess l l = false
  | [] => rfl
  | a :: l => by simp [Op.bytesLess, bl_irr l]
theorem bl_asy : ∀ l m : List UInt8, Op.bytesLess l m = true → Op.bytesLess m l = false
  | _, [], h => by simp [Op.bytesLess] at h
  | [], _ :: _, _ => rfl
  | a :: l, b :: m, h => by
    simp only [Op.bytesLess, Bool.or_eq_true, decide_eq_true_eq, Bool.and_eq_true, beq_iff_eq] at h
    simp only [Op.bytesLess, Bool.or_eq_false_iff, decide_eq_false_iff_not, Bool.and_eq_false_iff, beq_eq_false_iff_ne]
    rcases h with h | ⟨rfl, h⟩
    · exact ⟨by rw [UInt8.lt_iff_toNat_lt] at h ⊢; omega, .inl (fun e => by rw [e, UInt8.lt_iff_toNat_lt] at h; omega)⟩
    · exact ⟨by rw [UInt8.lt_iff_toNat_lt]; omega, .inr (bl_asy l m h)⟩
theorem bl_tri : ∀ l m : List UInt8, Op.bytesLess l m = false → Op.bytesLess m l = false → l = m
  | [], [], _, _ => rfl
  | [], _ :: _, h, _ => by simp [Op.bytesLess] at h
  | _ :: _, [], _, h => by simp [Op.bytesLess] at h
  | a :: l, b :: m, h1, h2 => by
    simp only [Op.bytesLess, Bool.or_eq_false_iff, decide_eq_false_iff_not, Bool.and_eq_false_iff, beq_eq_false_iff_ne] at h1 h2
    have e : a = b := by
      apply UInt8.toNat_inj.1
      have := h1.1
      have := h2.1
      rw [UInt8.lt_iff_toNat_lt] at *
      omega
    subst e
    rw [bl_tri l m (by rcases h1.2 with h | h; exact absurd rfl h; exact h) (by rcases h2.2 with h | h; exact absurd rfl h; exact h)]
theorem bl_trans : ∀ l m n : List UInt8, Op.bytesLess l m = true → Op.bytesLess m n = true → Op.bytesLess l n = true
  | _, [], _, h, _ => by simp [Op.bytesLess] at h
  | _, _ :: _, [], _, h => by simp [Op.bytesLess] at h
  | [], _ :: _, _ :: _, _, _ => rfl
  | a :: l, b :: m, c :: n, h1, h2 => by
    simp only [Op.bytesLess, Bool.or_eq_true, decide_eq_true_eq, Bool.and_eq_true, beq_iff_eq] at h1 h2 ⊢
    rcases h1 with h1 | ⟨rfl, h1⟩ <;> rcases h2 with h2 | ⟨rfl, h2⟩
    · exact .inl (by rw [UInt8.lt_iff_toNat_lt] at *; omega)
    · exact .inl h1
    · exact .inl h2
    · exact .inr ⟨rfl, bl_trans l m n h1 h2⟩
def strC (x y : ByteArray) : Int := if Op.bytesLess x.toList y.toList = true then -1 else if Op.bytesLess y.toList x.toList = true then 1 else 0
theorem strC_good : Good strC := by
  refine Good.of_lt (fun x y : ByteArray => Op.bytesLess x.toList y.toList = true) (fun x => by rw [bl_irr]; decide) (fun x y h => by rw [bl_asy _ _ h]; decide) (fun x y z h1 h2 h3 => ?_)
  have a1 : Op.bytesLess y.toList x.toList = false := by simpa using h1
  have a2 : Op.bytesLess z.toList y.toList = false := by simpa using h2
  cases h4 : Op.bytesLess x.toList y.toList with
  | true => exact h2 (bl_trans _ _ _ h3 h4)
  | false => rw [bl_tri _ _ h4 a1] at h3; exact h2 h3
theorem strC_eq (x y : ByteArray) : (if Op.bytesLess x.toList y.toList = true then (-1 : Int) else if (x.toList == y.toList) = true then 0 else 1) = strC x y := by
  unfold strC
  cases h1 : Op.bytesLess x.toList y.toList with
  | true => simp
  | false =>
    cases h2 : Op.bytesLess y.toList x.toList with
    | true =>
      have : ¬ x.toList = y.toList := fun e => by rw [e, bl_irr] at h2; cases h2
      simp [this]
    | false => simp [bl_tri _ _ h1 h2]
/-! numbers -/
def numC (a b : S39) : Int := if LessP a.f0 a.f1 b.f0 b.f1 then -1 else if LessP b.f0 b.f1 a.f0 a.f1 then 1 else 0
theorem numC_good : Good numC := by
  refine Good.of_lt (fun a b : S39 => LessP a.f0 a.f1 b.f0 b.f1) (fun x => ?_) (fun x y h => ?_) (fun x y z h1 h2 => ?_)
  · unfold LessP; omega
  · unfold LessP at *; omega
  · unfold LessP at *; omega
theorem numbers_f (k : Nat) (a b : S39) : xsort_numbers.f (k + 3) a.f0 a.f1 b.f0 b.f1 = some (numC a b) := by
  unfold xsort_numbers.f numC
  rw [less_f, less_f]
  by_cases h : LessP a.f0 a.f1 b.f0 b.f1
  · simp [h]
  · by_cases h2 : LessP b.f0 b.f1 a.f0 a.f1
    · simp [h, h2]
    · simp [h, h2]
/-! keys, rows -/
abbrev Key := S41
def noKey : Key := ⟨false, false, ⟨#[]⟩, ⟨0, 0⟩⟩
def atP (row : List Key) (i : Nat) : Key := row.getD i noKey
def keyC (key x y : Key) : Int := if key.f1 = true then -(if key.f0 = true then numC x.f3 y.f3 else strC x.f2 y.f2) else (if key.f0 = true then numC x.f3 y.f3 else strC x.f2 y.f2)
theorem keyC_good (key : Key) : Good (keyC key) := by
  have G : Good (fun x y : Key => if key.f0 = true then numC x.f3 y.f3 else strC x.f2 y.f2) := by
    cases key.f0
    · simpa using strC_good.on (fun x : Key => x.f2)
    · simpa using numC_good.on (fun x : Key => x.f3)
  unfold keyC
  cases key.f1
  · simpa using G
  · simpa using G.neg
def rowC : List Key → Nat → List Key → List Key → Int
  | [], _, _, _ => 0
  | key :: r, i, a, b => if keyC key (atP a i) (atP b i) ≠ 0 then keyC key (atP a i) (atP b i) else rowC r (i + 1) a b
theorem rowC_good : ∀ (r : List Key) (i : Nat), Good (rowC r i)
  | [], _ => Good.none
  | key :: r, i => ((keyC_good key).on (fun a => atP a i)).lex (rowC_good r (i + 1))
theorem keyC_small (key x y : Key) : -1 ≤ keyC key x y ∧ keyC key x y ≤ 1 := by
  have h : ∀ a b, -1 ≤ numC a b ∧ numC a b ≤ 1 := fun a b => by unfold numC; split <;> (try split) <;> omega
  have h2 : ∀ a b, -1 ≤ strC a b ∧ strC a b ≤ 1 := fun a b => by unfold strC; split <;> (try split) <;> omega
  have h3 := h x.f3 y.f3
  have h4 := h2 x.f2 y.f2
  unfold keyC
  split <;> split <;> omega
/-! the walk of the comparison -/
theorem at_f (row : List Key) (i : Nat) : xsort_at.f row i = some ((atP row i).f0, (atP row i).f1, (atP row i).f2, (atP row i).f3.f0, (atP row i).f3.f1) := by
  unfold xsort_at.f
  by_cases h : i < row.length
  · have e : rd_T41 row i = atP row i := by
      unfold rd_T41 atP
      rw [Int.toNat_natCast, List.getD_eq_getElem?_getD, List.getD_eq_getElem?_getD, List.getElem?_eq_getElem h]
      rfl
    rw [if_neg (by omega), if_pos (by omega), if_pos (by omega), e]
  · have e : atP row i = noKey := by unfold atP; rw [List.getD_eq_getElem?_getD, List.getElem?_eq_none (by omega)]; rfl
    rw [if_pos (by omega), e]
    rfl
theorem compare_s (a b : ByteArray) : cmp_Compare_string.f a b = some (strC a b) := by
  unfold cmp_Compare_string.f
  rw [strC_eq]
theorem kk_at (l : List (List Key)) (x : Nat) (hx : x < l.length) : rd_KK l x = l[x] := by
  unfold rd_KK
  rw [Int.toNat_natCast, List.getD_eq_getElem?_getD, List.getElem?_eq_getElem hx]
  rfl
theorem w64s (n : Int) (h : -1000000000 ≤ n) (h2 : n ≤ 1000000000) : wrap64 n = n := by unfold wrap64; omega
theorem order1_l (l : List (List Key)) (x y : Nat) (hx : x < l.length) (hy : y < l.length) (first : List Key) (hf : first.length < 1000000) : ∀ (r pre : List Key) (k : Nat), first = pre ++ r → 2 * r.length + 6 ≤ k →
    xsort_Order1.l0 k x y l first (first.length : Int) (pre.length : Int) = some (rowC r pre.length l[x] l[y])
  | [], pre, k, hs, hk => by
    obtain ⟨k, rfl⟩ : ∃ j, k = j + 1 := ⟨k - 1, by omega⟩
    rw [xsort_Order1.l0, if_neg (by rw [hs]; simp)]
    rfl
  | key :: r, pre, k, hs, hk => by
    obtain ⟨k, rfl⟩ : ∃ j, k = j + 3 + 2 := ⟨k - 5, by simp only [List.length_cons] at hk; omega⟩
    have hlen : first.length = pre.length + r.length + 1 := by rw [hs]; simp; omega
    have ih := order1_l l x y hx hy first hf r (pre ++ [key]) (k + 3) (by rw [hs]; simp) (by simp only [List.length_cons] at hk; omega)
    rw [List.length_append, List.length_singleton] at ih
    have ek : rd_T41 first (pre.length : Int) = key := by
      unfold rd_T41
      rw [Int.toNat_natCast, List.getD_eq_getElem?_getD, hs, List.getElem?_append_right (Nat.le_refl _), Nat.sub_self]
      rfl
    have hw : wrap64 ((pre.length : Int) + 1) = ((pre.length + 1 : Nat) : Int) := by rw [w64s _ (by omega) (by omega)]; omega
    have hsm := keyC_small key (atP l[x] pre.length) (atP l[y] pre.length)
    have hrc : rowC (key :: r) pre.length l[x] l[y] = if keyC key (atP l[x] pre.length) (atP l[y] pre.length) ≠ 0 then keyC key (atP l[x] pre.length) (atP l[y] pre.length) else rowC r (pre.length + 1) l[x] l[y] := rfl
    rw [xsort_Order1.l0, if_pos (by omega), if_pos (by omega), if_pos (by omega), if_pos (by omega), if_pos (by omega), kk_at l x hx, at_f, ob, if_pos (by omega), if_pos (by omega), kk_at l y hy, at_f, ob, compare_s, ob, ek]
    have step : ∀ n : Int, -1 ≤ n → n ≤ 1 → (if key.f1 = true then -n else n) = keyC key (atP l[x] pre.length) (atP l[y] pre.length) →
        xsort_Order1.j1 (k + 3 + 1) x y l n first (first.length : Int) (pre.length : Int) key.f0 key.f1 key.f2 key.f3.f0 key.f3.f1 = some (rowC (key :: r) pre.length l[x] l[y]) := by
      intro n n1 n2 hn
      rw [xsort_Order1.j1, hrc, hw, ih]
      cases hf1 : key.f1 with
      | true =>
        rw [hf1, if_pos rfl] at hn
        rw [if_pos rfl, w64s _ (by omega) (by omega), hn]
        by_cases e : keyC key (atP l[x] pre.length) (atP l[y] pre.length) = 0
        · rw [if_pos e, if_neg (by omega)]
        · rw [if_neg e, if_pos e]
      | false =>
        rw [hf1, if_neg (by decide)] at hn
        rw [if_neg (by decide), hn]
        by_cases e : keyC key (atP l[x] pre.length) (atP l[y] pre.length) = 0
        · rw [if_pos e, if_neg (by omega)]
        · rw [if_neg e, if_pos e]
    have h1 : ∀ a b, -1 ≤ numC a b ∧ numC a b ≤ 1 := fun a b => by unfold numC; split <;> (try split) <;> omega
    have h2 : ∀ a b, -1 ≤ strC a b ∧ strC a b ≤ 1 := fun a b => by unfold strC; split <;> (try split) <;> omega
    cases hf0 : key.f0 with
    | true =>
      have e1 := numbers_f (k + 1) (atP l[x] pre.length).f3 (atP l[y] pre.length).f3
      rw [if_pos rfl, e1, ob]
      have s := step (numC (atP l[x] pre.length).f3 (atP l[y] pre.length).f3) (h1 _ _).1 (h1 _ _).2 (by unfold keyC; simp only [hf0, if_true])
      rw [hf0] at s
      exact s
    | false =>
      rw [if_neg (by decide)]
      have s := step (strC (atP l[x] pre.length).f2 (atP l[y] pre.length).f2) (h2 _ _).1 (h2 _ _).2 (by unfold keyC; simp only [hf0, Bool.false_eq_true, if_false])
      rw [hf0] at s
      exact s
/-- the comparison of two rows of l, its first row telling the keys -/
def cmpC (l : List (List Key)) (x y : Nat) : Int := rowC (l.getD 0 []) 0 (l.getD x []) (l.getD y [])
theorem order1_f (l : List (List Key)) (x y : Nat) (hx : x < l.length) (hy : y < l.length) (hf : (l.getD 0 []).length < 1000000) (k : Nat) (hk : 2 * (l.getD 0 []).length + 6 ≤ k) : xsort_Order1.f k x y l = some (cmpC l x y) := by
  have h0 : 0 < l.length := by omega
  have e0 : rd_KK l 0 = l.getD 0 [] := by
    unfold rd_KK
    rfl
  unfold xsort_Order1.f
  rw [if_pos (by omega), e0]
  have h := order1_l l x y hx hy (l.getD 0 []) hf (l.getD 0 []) [] k rfl hk
  rw [List.length_nil] at h
  unfold cmpC
  rw [List.getD_eq_getElem?_getD (i := x), List.getElem?_eq_getElem hx, List.getD_eq_getElem?_getD (i := y), List.getElem?_eq_getElem hy]
  exact h
theorem cmpC_good (l : List (List Key)) : Good (cmpC l) := (rowC_good (l.getD 0 []) 0).on (fun x => l.getD x [])
theorem cf_eq (l : List (List Key)) (x y : Nat) (hx : x < l.length) (hy : y < l.length) (hf : (l.getD 0 []).length < 1000000) (k : Nat) (hk : 2 * (l.getD 0 []).length + 6 ≤ k) : xsort_Order.cf k l x y = cmpC l x y := by
  unfold xsort_Order.cf
  rw [order1_f l x y hx hy hf k hk]
  rfl
theorem order_ok (l : List (List Key)) (hl : l.length ≤ 1000000) (hf : (l.getD 0 []).length < 1000000) (k : Nat) (hk : 2 * (l.getD 0 []).length + 6 ≤ k) : xsort_Order.ok k l where
  len := hl
  all x hx y hy := by rw [order1_f l x y hx hy hf k hk]; rfl
  refl x hx := by rw [cf_eq l x x hx hx hf k hk]; exact (cmpC_good l).refl x
  turn x hx y hy := by rw [cf_eq l x y hx hy hf k hk, cf_eq l y x hy hx hf k hk]; exact (cmpC_good l).turn x y
  trans x hx y hy z hz := by rw [cf_eq l x y hx hy hf k hk, cf_eq l y z hy hz hf k hk, cf_eq l x z hx hz hf k hk]; exact (cmpC_good l).trans x y z
/-- the place x belongs ahead of y -/
def aheadC (c : Nat → Nat → Int) (x y : Nat) : Prop := c x y < 0 ∨ (c x y = 0 ∧ x < y)
/-- what xsort.Order tells: each place once, none behind one that it belongs ahead of -/
theorem order_f (l : List (List Key)) (hl : l.length ≤ 1000000) (hf : (l.getD 0 []).length < 1000000) : ∃ o : List Nat, o.Perm (List.range l.length) ∧ o.Pairwise (fun x y => aheadC (cmpC l) x y) ∧ ∀ k, 2 * (l.getD 0 []).length + 6 ≤ k → xsort_Order.f k l = some (o.map fun (x : Nat) => (x : Int)) := by
  have hk0 := order_ok l hl hf (2 * (l.getD 0 []).length + 6) (Nat.le_refl _)
  refine ⟨(xsort_Order.list (2 * (l.getD 0 []).length + 6) l).map (·.val), ?_, ?_, fun k hk => ?_⟩
  · have := (List.mergeSort_perm (List.finRange l.length) (fun x y => !xsort_Order.ah (2 * (l.getD 0 []).length + 6) l y x)).map (fun x : Fin l.length => x.val)
    rwa [show (List.finRange l.length).map (fun x : Fin l.length => x.val) = List.range l.length by
      apply List.ext_getElem?
      intro j
      by_cases hj : j < l.length
      · rw [List.getElem?_map, List.getElem?_eq_getElem (by simpa using hj), List.getElem?_range hj]; simp
      · rw [List.getElem?_map, List.getElem?_eq_none (by simpa using hj), List.getElem?_eq_none (by simpa using hj)]; rfl] at this
  · have hS := xsort_Order.swo hk0
    have h1 := List.pairwise_mergeSort (le := fun x y => !xsort_Order.ah (2 * (l.getD 0 []).length + 6) l y x) (fun a b c h1 h2 => by
      simp only [Bool.not_eq_true'] at h1 h2 ⊢
      exact hS.ntrans _ _ _ h2 h1) (fun a b => by
      cases h : xsort_Order.ah (2 * (l.getD 0 []).length + 6) l b a with
      | false => rfl
      | true => rw [hS.asymmA h]; rfl) (List.finRange l.length)
    have h2 : (xsort_Order.list (2 * (l.getD 0 []).length + 6) l).Nodup := (List.mergeSort_perm (List.finRange l.length) _).nodup_iff.2 (List.nodup_finRange _)
    rw [List.pairwise_map]
    refine (List.Pairwise.and h1 h2).imp (fun {x y} h => ?_)
    obtain ⟨h3, h4⟩ := h
    simp only [Bool.not_eq_true'] at h3
    have h5 : xsort_Order.ah (2 * (l.getD 0 []).length + 6) l x y = true := by
      cases h : xsort_Order.ah (2 * (l.getD 0 []).length + 6) l x y with
      | true => rfl
      | false => exact absurd (xsort_Order.anti hk0 x y h h3) h4
    have h6 := of_decide_eq_true h5
    rw [cf_eq l x y x.isLt y.isLt hf _ (Nat.le_refl _)] at h6
    exact h6
  · have hk1 := order_ok l hl hf k hk
    have e : xsort_Order.ah k l = xsort_Order.ah (2 * (l.getD 0 []).length + 6) l := by
      funext x y
      unfold xsort_Order.ah
      rw [cf_eq l x y x.isLt y.isLt hf _ (Nat.le_refl _), cf_eq l x y x.isLt y.isLt hf k hk]
    unfold xsort_Order.f
    rw [if_pos hk1]
    unfold xsort_Order.list
    rw [e, List.map_map]
    rfl
end Go.Proofs.YthedigbdkjcpfaaDoor.SortO
